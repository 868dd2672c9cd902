/- Part of the proof: Mue, Read, Sum, EqB, MtA. -/
import Derived.Deep.Slices
import Derived.DataReads
import Derived.ChangeKeysEq
import Derived.Test.YtlbnibmcflmohaaGreatPlx15
import Derived.Test.YtlbnibmcflmohaaGreatPlx17
import Derived.Test.YtlbnibmcflmohaaGreatPlx20
namespace Go.Proofs.YtlbnibmcflmohaaGreat
open Go.RowKit
theorem numL_el (n : Nat) (h : n < 115792089237316195423570985008687907853269984665640564039457584007913129639936) : numL 18446744073709551616 [n % 18446744073709551616, n / 18446744073709551616 % 18446744073709551616, n / 340282366920938463463374607431768211456 % 18446744073709551616, n / 6277101735386680763835789423207666416102355444464034512896 % 18446744073709551616] = n := by
  have := v4_of n h
  simp only [v4] at this
  simp only [numL]
  omega
theorem mul_el (a b : Nat) (ha : a < 115792089237316195423570985008687907853269984665640564039457584007913129639936) (hb : b < 115792089237316195423570985008687907853269984665640564039457584007913129639936) (w : World) :
    Calls Tryz.prog 71 #[.agg (elc a).toArray, .agg (elc b).toArray] w fun e w' => e = .returned (.agg (elc (a * b % pr)).toArray) ∧ Below w.heap.size w w' := by
  have h := mul_anyL [a % 18446744073709551616, a / 18446744073709551616 % 18446744073709551616, a / 340282366920938463463374607431768211456 % 18446744073709551616, a / 6277101735386680763835789423207666416102355444464034512896 % 18446744073709551616]
    [b % 18446744073709551616, b / 18446744073709551616 % 18446744073709551616, b / 340282366920938463463374607431768211456 % 18446744073709551616, b / 6277101735386680763835789423207666416102355444464034512896 % 18446744073709551616] rfl rfl
    (by intro x hx; simp only [List.mem_cons, List.not_mem_nil, or_false] at hx; rcases hx with rfl | rfl | rfl | rfl <;> exact Nat.mod_lt _ (by omega))
    (by intro x hx; simp only [List.mem_cons, List.not_mem_nil, or_false] at hx; rcases hx with rfl | rfl | rfl | rfl <;> exact Nat.mod_lt _ (by omega)) w
  rw [numL_el a ha, numL_el b hb] at h
  exact h
theorem sub_el (a b : Nat) (ha : a < 115792089237316195423570985008687907853269984665640564039457584007913129639936) (hb : b < 115792089237316195423570985008687907853269984665640564039457584007913129639936) (w : World) :
    Calls Tryz.prog 68 #[.agg (elc a).toArray, .agg (elc b).toArray] w fun e w' => e = .returned (.agg (elc ((a + (pr - b % pr)) % pr)).toArray) ∧ Below w.heap.size w w' := by
  refine (sub_any _ _ _ _ _ _ _ _ (Nat.mod_lt _ (by omega)) (Nat.mod_lt _ (by omega)) (Nat.mod_lt _ (by omega)) (Nat.mod_lt _ (by omega)) (Nat.mod_lt _ (by omega)) (Nat.mod_lt _ (by omega)) (Nat.mod_lt _ (by omega)) (Nat.mod_lt _ (by omega)) w).mono ?_
  rintro e w' ⟨s0, s1, s2, s3, q, q', rfl, ⟨h0, h1, h2, h3, h4, h5⟩, hB⟩
  rw [v4_of a ha, v4_of b hb] at h5
  exact ⟨by rw [l4_of _ _ _ _ h0 h1 h2 h3, sub_of _ _ _ _ _ h5 h4], hB⟩
attribute [local go_sem ↓] ldq_el
set_option maxRecDepth 100000 in
set_option maxHeartbeats 1000000 in
theorem sq_el (n : Nat) (hn : n < 115792089237316195423570985008687907853269984665640564039457584007913129639936) (w : World) :
    Calls Tryz.prog 69 #[.agg (elc n).toArray] w fun e w' => e = .returned (.agg (elc (n * n % pr)).toArray) ∧ Below w.heap.size w w' := by
  have HM := Lib.hid (fun W => mul_el n n hn hn W)
  have hld : ∀ o, (ldAt 80 (.pointer (some ⟨w.heap.size, 0, none⟩))).run Tryz.prog ((w.alloc (.cells (elc n).toArray 80)).alloc o) = .ok (.agg (elc n).toArray) ((w.alloc (.cells (elc n).toArray 80)).alloc o) := fun o => elc_ld ((Blk.new w 80 (elc n)).alloc o)
  have HE : Hid (∀ o, Below w.heap.size w ((w.alloc (.cells (elc n).toArray 80)).alloc o)) := fun o => ((Below.refl _ w).alloc (Nat.le_refl _) _).alloc (by simp) _
  have HR : Hid (Blk ((w.alloc (.cells (elc n).toArray 80)).alloc (.cells (l4 0 0 0 0).toArray 80)) (w.heap.size + 1) 80 (l4 0 0 0 0)) := Blk.new' (by simp) rfl
  go_enter Tryz.func69, Tryz.ntmps69
  go_wp2_with (first
    | ((with_reducible refine (HM.out _).mono ?_); rintro e w3 ⟨rfl, hB1⟩; have HR3 := qbl HR hB1; have HE3 := Lib.hid ((HE.out _).trans (hB1.mono (HE.out _).size)); clear hB1)
    | (refine wpList_store_all rfl 80 (.tmp 2) (.tmp 5) rfl (w.heap.size + 1) (elc (n * n % pr)) (by rfl) (by rfl) 80 _ HR3.out (by exact hdEl) (elc_one _) rfl ?_; intro w5 hb5 ho5; have HB5 := Lib.hid hb5; have HE5 := Lib.hid (ho5.below HE3.out (Nat.le_succ _) HE3.out.size); clear hb5 ho5))
  exact bodyPost_ret (res_cell rfl _ _ _ _ rfl HB5.out _ Tryz.underlying80 rfl (by exact hdEl)) rfl ⟨rfl, HE5.out⟩
end Go.Proofs.YtlbnibmcflmohaaGreat
namespace Go.Proofs.YtlbnibmcflmohaaGreat
open Go.ChangeShapes Go.WideShapes Go.ChangeAt Go.RowKit
def Small {H : Type} (B : Option Nat) (d : DataW H) : Prop := ∀ b, B = some b → Rows.uptoBulk d ≤ b
theorem bulk_part {H : Type} {d : DataW H} {l : List (DataW H)} (h : d ∈ l) : Rows.uptoBulk d ≤ Rows.uptoBulkAll l := by
  induction l with
  | nil => cases h
  | cons x r ih =>
    simp only [Rows.uptoBulkAll]
    cases List.mem_cons.1 h with
    | inl e => subst e; omega
    | inr e => have := ih e; omega
theorem bulk_one {H : Type} (d : DataW H) : 1 ≤ Rows.uptoBulk d := by
  cases d with
  | lit l => cases l <;> simp [Rows.uptoBulk]
  | nil => simp [Rows.uptoBulk]
  | ptr d => simp [Rows.uptoBulk]
  | slice elems spare => simp [Rows.uptoBulk]
  | agg parts => simp [Rows.uptoBulk]
  | iface t d => simp [Rows.uptoBulk]
  | map entries => simp [Rows.uptoBulk]
  | held h => simp [Rows.uptoBulk]
theorem bulk_len {H : Type} (l : List (DataW H)) : l.length ≤ Rows.uptoBulkAll l := by
  induction l with
  | nil => simp [Rows.uptoBulkAll]
  | cons x r ih => have := bulk_one x; simp only [Rows.uptoBulkAll, List.length_cons]; omega
structure Reads (P : Program) (B : Option Nat) (N : Nat) (t : TypeId) {α : Type} (cells : α → List Value) (Q : World → α → Prop) : Prop where
  opens : ∀ {H : Type} {enc : TypeId × Value → H} {W : World} {fuel : Nat} {cs : List Value} {x : DataW H × List MemPlace}, fuel < N → DataW.trod enc P W 0 (fun _ => true) true fuel t cs = some x → (∀ k ∈ x.1.weights P t, k ≤ reachBytes) → Small B x.1 → ∃ a, cs = cells a ∧ Q W a
theorem Reads.imp {P : Program} {B : Option Nat} {N : Nat} {t : TypeId} {α β : Type} {c : α → List Value} {Q : World → α → Prop} {c' : β → List Value} {Q' : World → β → Prop} (h : Reads P B N t c Q) (f : ∀ W a, Q W a → ∃ b, c a = c' b ∧ Q' W b) : Reads P B N t c' Q' :=
  ⟨fun hf hx hw hb => by
    obtain ⟨a, rfl, hq⟩ := h.opens hf hx hw hb
    obtain ⟨b, e, hq'⟩ := f _ a hq
    exact ⟨b, e, hq'⟩⟩
theorem Reads.mono {P : Program} {B : Option Nat} {N M : Nat} {t : TypeId} {α : Type} {c : α → List Value} {Q : World → α → Prop} (h : Reads P B M t c Q) (hN : N ≤ M) : Reads P B N t c Q := ⟨fun hf hx hw hb => h.opens (by omega) hx hw hb⟩
theorem reads_int {P : Program} {B : Option Nat} {N : Nat} {t : TypeId} {k : IntKind} (ht : P.underlying t = some (.int k)) : Reads P B N t (fun n : Int => [.int k n]) (fun _ n => (Lit.int k n).wf = true) :=
  ⟨fun _ hx _ _ => by
    obtain ⟨n, rfl, _, hn⟩ := DataW.trod_int ht hx
    exact ⟨n, rfl, hn⟩⟩
theorem reads_u8 {P : Program} {B : Option Nat} {N : Nat} {t : TypeId} (ht : P.underlying t = some (.int .u8)) : Reads P B N t (fun x : UInt8 => [u8 x]) (fun _ _ => True) :=
  (reads_int ht).imp fun _ n hn => ⟨UInt8.ofNat n.toNat, by rw [u8]; exact congrArg (fun z => [Value.int .u8 z]) (u8_of_wf hn), trivial⟩
structure Sl (α : Type) where
  A : Option Addr
  n : Nat
  c : Nat
  l : List α
def Sl.val {α : Type} (s : Sl α) : Value := .slice s.A s.n s.c
structure SlIn (B : Option Nat) {α : Type} (sz by_ : Nat) (cells : α → List Value) (Q : World → α → Prop) (W : World) (s : Sl α) : Prop where
  rd : RdS sz W s.A s.n (s.l.flatMap cells)
  len : s.l.length = s.n
  cap : s.n ≤ s.c
  reach : s.c * by_ ≤ reachBytes
  small : ∀ b, B = some b → s.c ≤ b
  each : ∀ a ∈ s.l, Q W a
  size : ∀ a ∈ s.l, (cells a).length = sz
theorem weightsAll_mem {H : Type} {P : Program} {e : TypeId} {d : DataW H} {l : List (DataW H)} {k : Nat} (hd : d ∈ l) (hk : k ∈ d.weights P e) : k ∈ DataW.weightsAll P e l := by
  induction l with
  | nil => cases hd
  | cons a l ih =>
    rw [DataW.weightsAll, List.mem_append]
    rcases List.mem_cons.1 hd with rfl | h
    · exact .inl hk
    · exact .inr (ih h)
theorem flatMap_get {α β : Type} {f : α → List β} {sz : Nat} {l : List α} (h : ∀ a ∈ l, (f a).length = sz) {j : Nat} {u : β} (hu : (l.flatMap f)[j]? = some u) : ∃ i a, l[i]? = some a ∧ ∃ r, r < sz ∧ j = i * sz + r ∧ (f a)[r]? = some u := by
  induction l generalizing j with
  | nil => simp at hu
  | cons a l ih =>
    have ha := h a (by simp)
    rw [List.flatMap_cons] at hu
    rcases Nat.lt_or_ge j sz with hj | hj
    · rw [List.getElem?_append_left (by omega)] at hu
      exact ⟨0, a, rfl, j, hj, by omega, hu⟩
    · rw [List.getElem?_append_right (by omega), ha] at hu
      obtain ⟨i, b, hb, r, hr, e, hu'⟩ := ih (fun b hb => h b (by simp [hb])) hu
      exact ⟨i + 1, b, by simpa using hb, r, hr, by rw [Nat.add_mul]; omega, hu'⟩
theorem flatMap_len {α β : Type} {f : α → List β} {sz : Nat} {l : List α} (h : ∀ a ∈ l, (f a).length = sz) : (l.flatMap f).length = l.length * sz := by
  induction l with
  | nil => simp
  | cons a l ih => rw [List.flatMap_cons, List.length_append, h a (by simp), ih (fun b hb => h b (by simp [hb])), List.length_cons, Nat.add_mul]; omega
theorem flatMap_at {α β : Type} {f : α → List β} {sz : Nat} {l : List α} (h : ∀ a ∈ l, (f a).length = sz) {i : Nat} {a : α} (hi : l[i]? = some a) {r : Nat} {u : β} (hu : (f a)[r]? = some u) : (l.flatMap f)[i * sz + r]? = some u := by
  induction l generalizing i with
  | nil => simp at hi
  | cons b l ih =>
    have hb := h b (by simp)
    rw [List.flatMap_cons]
    cases i with
    | zero =>
      simp at hi
      subst hi
      have := (List.getElem?_eq_some_iff.1 hu).1
      rw [List.getElem?_append_left (by omega)]
      simpa using hu
    | succ i =>
      simp at hi
      rw [List.getElem?_append_right (by rw [hb, Nat.add_mul]; omega), hb, show (i + 1) * sz + r - sz = i * sz + r by rw [Nat.add_mul]; omega]
      exact ih (fun b hb => h b (by simp [hb])) hi
theorem reads_slice {P : Program} {B : Option Nat} {N : Nat} {t e : TypeId} {α : Type} {cells : α → List Value} {Q : World → α → Prop} (sz by_ : Nat) (ht : P.underlying t = some (.slice e)) (hC : P.cellsOf e = sz) (hb : P.bytesOf e = by_) (hsz : 0 < sz) (he : Reads P B N e cells Q) :
    Reads P B (N + 1) t (fun s : Sl α => [s.val]) (SlIn B sz by_ cells Q) :=
  ⟨fun {H enc W fuel cs x} hf hx hw hB => by
    rcases DataW.trod_slice ht hx with ⟨rfl, rfl⟩ | ⟨a, len, cap, elems, rest, n, rfl, rfl, rfl, _, hl, hm, hlen, hel, hsp, _⟩
    · exact ⟨⟨none, 0, 0, []⟩, rfl, ⟨by simp, fun h => absurd h (Nat.lt_irrefl 0)⟩, rfl, Nat.le_refl _, by simp, by simp, by simp, by simp⟩
    · have hrest := (hsp rfl).1
      simp only [DataW.weights, ht, List.length_map] at hw
      have hreach : cap * by_ ≤ reachBytes := by
        have := hw ((elems.length + rest.length) * P.bytesOf e) (by simp)
        rw [hlen, hrest, hb] at this
        rwa [show len + (cap - len) = cap by omega] at this
      have hsmall : ∀ b, B = some b → cap ≤ b := fun b e => by
        have h0 := hB b e
        simp only [Rows.uptoBulk] at h0
        have h1 := bulk_len (elems.map (·.1))
        have h2 := bulk_len (rest.map (·.1))
        rw [List.length_map] at h1 h2
        omega
      have hsm : ∀ y ∈ elems, Small B y.1 := fun y hy b e => by
        have h0 := hB b e
        simp only [Rows.uptoBulk] at h0
        have h1 := bulk_part (List.mem_map.2 ⟨y, hy, rfl⟩ : y.1 ∈ elems.map (·.1))
        omega
      have hall : ∀ k, k ≤ len → ∃ l : List α, l.length = k ∧ ∀ i b, l[i]? = some b → Q W b ∧ (cells b).length = sz ∧ ∀ r, r < sz → W.cell? (a.add (i * sz + r)) = (cells b)[r]? := by
        intro k
        induction k with
        | zero => exact fun _ => ⟨[], rfl, fun i b h => by simp at h⟩
        | succ k ih =>
          intro hk
          obtain ⟨l, hll, h⟩ := ih (by omega)
          have h1 := hel k (by omega)
          obtain ⟨y, hy⟩ : ∃ y, elems[k]? = some y := ⟨_, List.getElem?_eq_getElem (by omega)⟩
          rw [hy, Option.bind_eq_some_iff] at h1
          obtain ⟨cs', hc', htr⟩ := h1
          obtain ⟨b, rfl, hq⟩ := he.opens (by omega) htr (fun q hq => hw q (by
            rw [List.mem_cons, List.mem_append]
            exact .inr (.inl (weightsAll_mem (List.mem_map.2 ⟨y, List.mem_of_getElem? hy, rfl⟩) hq)))) (hsm y (List.mem_of_getElem? hy))
          obtain ⟨_, hcl, hat⟩ := World.cells?_some hc'
          rw [hC] at hcl hat
          refine ⟨l ++ [b], by simp [hll], fun i b' hb' => ?_⟩
          rcases Nat.lt_or_ge i l.length with hi | hi
          · rw [List.getElem?_append_left hi] at hb'
            exact h i b' hb'
          · rw [List.getElem?_append_right hi] at hb'
            have : i - l.length = 0 := by
              rcases Nat.eq_zero_or_pos (i - l.length) with h0 | h0
              · exact h0
              · rw [List.getElem?_eq_none (by simp; omega)] at hb'; cases hb'
            rw [this] at hb'
            simp at hb'
            subst hb'
            obtain rfl : i = k := by omega
            refine ⟨hq, hcl, fun r hr => ?_⟩
            rw [← Go.Deep.add_add]
            exact hat r hr
      obtain ⟨l, hll, h⟩ := hall len (Nat.le_refl _)
      have hsize : ∀ b ∈ l, (cells b).length = sz := fun b hb => by
        obtain ⟨i, hi, e⟩ := List.mem_iff_getElem.1 hb
        exact (h i b (by rw [List.getElem?_eq_getElem hi, e])).2.1
      refine ⟨⟨some a, len, cap, l⟩, rfl, ⟨by rw [flatMap_len hsize, hll], fun hn => ?_⟩, hll, hl, hreach, hsmall, fun b hb => ?_, hsize⟩
      · obtain ⟨b0, hb0⟩ : ∃ b, l[0]? = some b := ⟨_, List.getElem?_eq_getElem (by rw [hll]; exact hn)⟩
        have h0 := (h 0 b0 hb0).2.2 0 hsz
        obtain ⟨u0, hu0⟩ : ∃ u, (cells b0)[0]? = some u := ⟨_, List.getElem?_eq_getElem (by rw [(h 0 b0 hb0).2.1]; exact hsz)⟩
        rw [hu0] at h0
        obtain ⟨b, off, spot⟩ := a
        have hspot : spot = none := by simpa [Addr.add] using World.cell?_spot h0
        subst hspot
        refine ⟨b, off, rfl, (by have := World.block_lt_of_cell? W _ h0; rw [Addr.add_mid] at this; exact this), fun j u hu => ?_⟩
        obtain ⟨i, a', ha', r, hr, rfl, hu'⟩ := flatMap_get hsize hu
        have := (h i a' ha').2.2 r hr
        rw [Addr.add_mid, hu'] at this
        exact this
      · obtain ⟨i, hi, e⟩ := List.mem_iff_getElem.1 hb
        exact (h i b (by rw [List.getElem?_eq_getElem hi, e])).1⟩
structure ReadsF (P : Program) (B : Option Nat) (N : Nat) (fs : List Field) (off : Nat) {α : Type} (cells : α → List Value) (Q : World → α → Prop) : Prop where
  opens : ∀ {H : Type} {enc : TypeId × Value → H} {W : World} {fuel : Nat} {cs : List Value} {xs : List (DataW H × List MemPlace)}, fuel < N → xs.length = fs.length →
    (∀ (i : Nat) (f : Field), fs[i]? = some f → DataW.trod enc P W 0 (fun _ => true) true fuel f.type ((cs.drop f.offset).take (P.cellsOf f.type)) = xs[i]?) → (∀ k ∈ DataW.weightsEach P (fs.map (·.type)) (xs.map (·.1)), k ≤ reachBytes) → (∀ b, B = some b → Rows.uptoBulkAll (xs.map (·.1)) ≤ b) →
    (∃ a, cs.take off ++ cells a = cs.take (off + (cells a).length) ∧ off + (cells a).length = off + (fs.map fun f => P.cellsOf f.type).sum ∧ Q W a) ∨ cs.length < off + (fs.map fun f => P.cellsOf f.type).sum
theorem readsF_nil {P : Program} {B : Option Nat} {N : Nat} {off : Nat} : ReadsF P B N [] off (fun _ : Unit => []) (fun _ _ => True) := ⟨fun _ _ _ _ _ => .inl ⟨(), by simp, by simp, trivial⟩⟩
theorem readsF_cons {P : Program} {B : Option Nat} {N : Nat} {f : Field} {fs : List Field} {off sz : Nat} {α β : Type} {c : α → List Value} {Q : World → α → Prop} {c' : β → List Value} {Q' : World → β → Prop} (ho : f.offset = off) (hsz : P.cellsOf f.type = sz)
    (h : Reads P B N f.type c Q) (h' : ReadsF P B N fs (off + sz) c' Q') : ReadsF P B N (f :: fs) off (fun x : α × β => c x.1 ++ c' x.2) (fun W x => Q W x.1 ∧ Q' W x.2) :=
  ⟨fun {H enc W fuel cs xs} hf hl hx hw hB => by
    cases xs with
    | nil => simp at hl
    | cons y xs =>
      simp only [List.length_cons, Nat.add_right_cancel_iff] at hl
      simp only [List.map_cons, List.sum_cons, hsz]
      rcases Nat.lt_or_ge cs.length (off + (sz + (fs.map fun f => P.cellsOf f.type).sum)) with hlt | hge
      · exact .inr hlt
      left
      have h0 := hx 0 f rfl
      rw [ho, hsz] at h0
      simp only [List.map_cons, DataW.weightsEach, List.mem_append] at hw
      simp only [List.map_cons, Rows.uptoBulkAll] at hB
      obtain ⟨a, ea, hq⟩ := h.opens hf h0 (fun k hk => hw k (.inl hk)) (fun b e => by have := hB b e; omega)
      rcases h'.opens (cs := cs) hf hl (fun i g hg => hx (i + 1) g (by simpa using hg)) (fun k hk => hw k (.inr hk)) (fun b e => by have := hB b e; omega) with ⟨b, eb, el, hq'⟩ | hb
      · have hal : (c a).length = sz := by rw [← ea]; simp; omega
        refine ⟨(a, b), ?_, ?_, hq, hq'⟩
        · show cs.take off ++ (c a ++ c' b) = _
          rw [← List.append_assoc]
          have e1 : cs.take off ++ c a = cs.take (off + sz) := by rw [← ea, List.take_add]
          rw [e1, eb, List.length_append, hal, Nat.add_assoc]
        · show off + (c a ++ c' b).length = _
          rw [List.length_append, hal]; omega
      · omega⟩
theorem reads_struct {P : Program} {B : Option Nat} {N : Nat} {t : TypeId} {fs : Array Field} {α : Type} {c : α → List Value} {Q : World → α → Prop} (ht : P.underlying t = some (.struct fs)) (hC : (fs.toList.map fun f => P.cellsOf f.type).sum = P.cellsOf t) (h : ReadsF P B N fs.toList 0 c Q) : Reads P B (N + 1) t c Q :=
  ⟨fun {H enc W fuel cs x} hf hx hw hB => by
    obtain ⟨xs, n, rfl, rfl, hcl, hxl, hfs⟩ := DataW.trod_struct ht hx
    rcases h.opens (cs := cs) (fuel := n) (by omega) (by simpa using hxl) (fun i f hi => hfs i f (by simpa using hi)) (by simpa [DataW.weights, ht] using hw) (fun b e => by have := hB b e; simp only [Rows.uptoBulk] at this; omega) with ⟨a, ea, el, hq⟩ | hb
    · refine ⟨a, ?_, hq⟩
      simp only [List.take_zero, List.nil_append, Nat.zero_add] at ea el
      rw [ea, List.take_of_length_le (by omega)]
    · omega⟩
theorem flat_u8s (l : List UInt8) : (l.flatMap fun x => [u8 x]) = u8s l := by
  induction l with
  | nil => rfl
  | cons a l ih => rw [List.flatMap_cons, ih]; rfl
theorem SlIn.bytes {B : Option Nat} {W : World} {s : Sl UInt8} (h : SlIn B 1 1 (fun x : UInt8 => [u8 x]) (fun _ _ => True) W s) : Rd W s.A s.n (u8s s.l) ∧ s.n ≤ s.c ∧ s.c ≤ 140737488351232 := by
  have h1 := h.rd
  rw [flat_u8s] at h1
  have h2 := h.reach
  unfold reachBytes at h2
  exact ⟨h1.to1, h.cap, by omega⟩
end Go.Proofs.YtlbnibmcflmohaaGreat
namespace Go.Proofs.YtlbnibmcflmohaaGreat
open Go.RowKit
def sumT (ns : List Nat) : Nat → Nat
  | 0 => 0
  | k + 1 => sumT ns k + ns.getD k 0
theorem el_range {w : World} {A : Option Addr} {n : Nat} {l : List Nat} (h : RdS 4 w A n (l.flatMap elc)) {i x : Nat} (hi : l[i]? = some x) (hn : 0 < n) :
    ∃ b off, A = some ⟨b, off, none⟩ ∧ b < w.heap.size ∧ w.rangeAt b (off + i * 4) (elc x) := by
  obtain ⟨b, off, e, hb, hc⟩ := h.2 hn
  refine ⟨b, off, e, hb, fun j v hv => ?_⟩
  have h1 := flatMap_at (f := elc) (sz := 4) (fun a ha => rfl) hi hv
  rw [Nat.add_assoc]
  exact hc _ _ h1
theorem RdS.bel' {sz : Nat} {w w' : World} {A : Option Addr} {n : Nat} {xs : List Value} (h : RdS sz w A n xs) {B : Nat} (hb : Below B w w') (hB : w.heap.size ≤ B) : RdS sz w' A n xs := by
  refine ⟨h.1, fun hn => ?_⟩
  obtain ⟨b, off, e, hlt, hc⟩ := h.2 hn
  exact ⟨b, off, e, Nat.lt_of_lt_of_le hlt hb.size, fun j u hu => (hb.cell (p := ⟨b, off + j, none⟩) (Nat.lt_of_lt_of_le hlt hB)).trans (hc j u hu)⟩
theorem ex_loadEl {w : World} {o : Oper} {a : Act} {g : Nat} {t : TypeId} {x : Operand} {n : Nat} (ho : o.op = .load 80 x) (hx : a.eval x = .pointer (some ⟨g, 0, none⟩)) (hb : Blk w g t (elc n)) : (execOp a.eval o).run Tryz.prog w = .ok (.value (.agg (elc n).toArray)) w :=
  ey_loadR ho hx (elc_ld hb)
attribute [local go_sem ↓] ldq_el
set_option maxRecDepth 100000 in
set_option maxHeartbeats 1000000 in
theorem sum_el (A : Option Addr) (n c : Nat) (ns : List Nat) (w : World) (hn9 : n < 1000) (h : RdS 4 w A n (ns.flatMap elc)) (hl : ns.length = n) (hs : ∀ x ∈ ns, x < 115792089237316195423570985008687907853269984665640564039457584007913129639936) :
    Calls Tryz.prog 67 #[.slice A n c] w fun e w' => e = .returned (.agg (elc (sumT ns n % pr)).toArray) ∧ Below w.heap.size w w' := by
  have HR := Lib.hid h
  have HL := Lib.hid hl
  have HS := Lib.hid hs
  have HM0 : Hid (Blk ((w.alloc (.cells (l4 0 0 0 0).toArray 80)).alloc (.cells (l4 0 0 0 0).toArray 80)) w.heap.size 80 (l4 0 0 0 0) ∧ Blk ((w.alloc (.cells (l4 0 0 0 0).toArray 80)).alloc (.cells (l4 0 0 0 0).toArray 80)) (w.heap.size + 1) 80 (elc 0) ∧ Below w.heap.size w ((w.alloc (.cells (l4 0 0 0 0).toArray 80)).alloc (.cells (l4 0 0 0 0).toArray 80))) :=
    ⟨(Blk.new w _ _).alloc _, Blk.new' (by simp) rfl, ((Below.refl _ w).alloc (Nat.le_refl _) _).alloc (by simp) _⟩
  clear h hl hs
  go_enter Tryz.func67, Tryz.ntmps67
  go_wp2
  go_loopg [8] n (fun kk q wr => ∃ i : Nat, kk = n - i ∧ q = .int .i64 (i : Int) ∧ i ≤ n ∧ Blk wr w.heap.size 80 (l4 0 0 0 0) ∧ Blk wr (w.heap.size + 1) 80 (elc (sumT ns i % pr)) ∧ Below w.heap.size w wr)
  case atStart => exact ⟨0, rfl, rfl, by omega, HM0.out.1, HM0.out.2.1, HM0.out.2.2⟩
  case round =>
    clear HM0
    obtain ⟨i, hgk, rfl, hi, hz, hb, hB⟩ := hrel
    have HGK := Lib.hid hgk
    clear hgk
    rcases Nat.lt_or_ge i n with hlt | hge
    · have hlt2 : (i : Int) < (n : Int) := by omega
      obtain ⟨x, hsi⟩ : ∃ x, ns[i]? = some x := ⟨_, List.getElem?_eq_getElem (by rw [HL.out]; omega)⟩
      have hxP := HS.out x (List.mem_of_getElem? hsi)
      obtain ⟨b2, o2, rfl, hb2, hrg⟩ := el_range (HR.out.bel' hB (Nat.le_refl _)) hsi (by omega)
      have hld : (ldAt 80 (.pointer (some ⟨b2, o2 + i * 4, none⟩))).run Tryz.prog wr = .ok (.agg (elc x).toArray) wr := run_loadAt_mid wr b2 (o2 + i * 4) 80 (elc x) _ hrg Tryz.underlying80 rfl (by exact hdEl)
      have HX : Hid (sumT ns (i + 1) % pr = (sumT ns i % pr + x % pr) % pr) := by
        rw [sumT, List.getD_eq_getElem?_getD, hsi]
        exact Nat.add_mod _ _ _
      have hxs : w.heap.size + 2 ≤ wr.heap.size := by have := hb.lt; omega
      have HB := Lib.hid hb
      have HZ := Lib.hid hz
      have HBB := Lib.hid hB
      have HXP := Lib.hid hxP
      have HXS := Lib.hid hxs
      clear hsi hrg hb hz hB hb2 hxP hxs
      go_upto_region 5 with (refine wpList_store_all rfl 80 (.tmp 5) (.tmp 11) rfl wr.heap.size (elc x) (by rfl) (by rfl) 80 (l4 0 0 0 0) (by exact Blk.new' rfl rfl) (by exact hdEl) (elc_one _) rfl ?_; intro w1 hb1 ho1)
      have hbs := HXS.out
      have HZ1 := ho1.blk (HZ.out.alloc _) (by omega)
      have HS1 := ho1.blk (HB.out.alloc _) (by omega)
      have HE1 := ho1.below (HBB.out.alloc HBB.out.size _) HBB.out.size (by simp; omega)
      have HT : Hid (Blk w1.drew (w.heap.size + 1) 80 (elc (sumT ns i % pr)) ∧ Blk w1.drew wr.heap.size 80 (elc x)) := ⟨HS1.drew, hb1.drew⟩
      refine region_K (by kernel_rfl) 4 (fun w' => Blk w' (w.heap.size + 1) 80 (elc (sumT ns i % pr)) ∧ Blk w' wr.heap.size 80 (elc x)) ?_
      refine AnyK.load 0 (v := .agg (elc (sumT ns i % pr)).toArray) rfl (by kernel_rfl) (by kernel_rfl) (by kernel_rfl) (fun _ _ _ h => h) rfl (fun w' hw' => ex_loadEl (x := .tmp 3) (by rfl) (by kernel_rfl) hw'.1) HT.out ?_
      refine AnyK.load 1 (v := .agg (elc x).toArray) rfl (by kernel_rfl) (by kernel_rfl) (by kernel_rfl) (fun _ _ _ h => h) rfl (fun w' hw' => ex_loadEl (x := .tmp 5) (by rfl) (by kernel_rfl) hw'.2) HT.out ?_
      refine AnyK.enter 2 (d := some 14) (f := 58) (args := #[.agg (elc x).toArray]) (by rfl) (by kernel_rfl) (by kernel_rfl) ?_
      refine (norm_el x HXP.out _).mono ?_
      rintro e w2 ⟨rfl, hB2⟩
      have HT2 : Hid (Blk w2 (w.heap.size + 1) 80 (elc (sumT ns i % pr)) ∧ Blk w2 wr.heap.size 80 (elc x)) := ⟨HT.out.1.below hB2 HT.out.1.lt, HT.out.2.below hB2 HT.out.2.lt⟩
      have HZ2 := HZ1.drew.below hB2 HZ1.drew.lt
      have HE2 := HE1.drew.trans (hB2.mono HE1.drew.size)
      refine ⟨_, rfl, fun _ => HT2.out, ?_⟩
      refine AnyK.enter 3 (d := some 15) (f := 85) (args := #[.agg (elc (sumT ns i % pr)).toArray, .agg (elc (x % pr)).toArray]) (by rfl) (by kernel_rfl) (by kernel_rfl) ?_
      refine (add_el (sumT ns i % pr) (x % pr) (pr_lt _) (pr_lt _) (by have h1 := pr_lt' (sumT ns i); have h2 := pr_lt' x; simp only [pr] at h1 h2 ⊢; omega) _).mono ?_
      rintro e w3 ⟨rfl, hB3⟩
      have HT3 : Hid (Blk w3 (w.heap.size + 1) 80 (elc (sumT ns i % pr)) ∧ Blk w3 wr.heap.size 80 (elc x)) := ⟨HT2.out.1.below hB3 HT2.out.1.lt, HT2.out.2.below hB3 HT2.out.2.lt⟩
      have HZ3 := HZ2.below hB3 HZ2.lt
      have HE3 := HE2.trans (hB3.mono HE2.size)
      refine ⟨_, rfl, fun _ => HT3.out, ?_⟩
      rw [← HX.out]
      refine AnyK.storeAll 4 (w.heap.size + 1) (elc (sumT ns (i + 1) % pr)) 80 _ rfl rfl rfl (by rfl) (by kernel_rfl) (by kernel_rfl) (by kernel_rfl) HT3.out.1 (by exact hdEl) (elc_one _) rfl (fun _ _ _ h => (by cases h)) ?_
      intro w6 hb6 ho6
      refine AnyK.done (by kernel_rfl) ?_
      have HE6 := Lib.hid (ho6.below HE3 (by omega) HE3.size)
      have HB6 := Lib.hid hb6
      have HZ6 := Lib.hid (ho6.blk HZ3 (by omega))
      clear hb6 ho6 HZ3 HE3 HE2 HZ2 hB2 hB3 HZ1 HS1 HE1 hb1 ho1 hbs
      go_wp2
      go_roundg (n - (i + 1))
      case measure => have := HGK.out; omega
      case rel => exact ⟨i + 1, rfl, by go_num, by omega, HZ6.out, HB6.out, HE6.out⟩
    · obtain rfl : i = n := by omega
      have hlt2 : ¬ (i : Int) < (i : Int) := by omega
      have hld := elc_ld hb
      have HZ := Lib.hid hz
      have HBB := Lib.hid hB
      clear hb hz hB
      go_wp2_with (refine wpList_store_all rfl 80 (.tmp 2) (.tmp 17) rfl w.heap.size (elc (sumT ns i % pr)) (by rfl) (by rfl) 80 (l4 0 0 0 0) HZ.out (by exact hdEl) (elc_one _) rfl ?_; intro w5 hb5 ho5; have HB5 := Lib.hid hb5; have HE5 := Lib.hid (ho5.below HBB.out (Nat.le_refl _) HBB.out.size); clear hb5 ho5)
      exact bodyPost_ret (res_cell rfl _ _ _ _ rfl HB5.out _ Tryz.underlying80 rfl (by exact hdEl)) rfl ⟨rfl, HE5.out⟩
end Go.Proofs.YtlbnibmcflmohaaGreat
namespace Go.Proofs.YtlbnibmcflmohaaGreat
open Go.RowKit
section
variable {P : Program}
theorem eqItems_bytes (d : Nat) (e : TypeId) (he : P.plainKey e = true) (hu : P.underlying e = some (.int .u8)) (a b : List UInt8) (hl : a.length = b.length) (w : World) :
    ∀ (k i : Nat), i + k = a.length → (Op.eqItems (d + 1) e 1 (u8s a).toArray (u8s b).toArray (List.range' i k)).run P w = .ok (decide (a.drop i = b.drop i)) w := by
  intro k
  induction k with
  | zero =>
    intro i hi
    rw [List.drop_eq_nil_of_le (by omega), List.drop_eq_nil_of_le (by omega)]
    simp [Op.eqItems]
  | succ k ih =>
    intro i hi
    have hia : i < a.length := by omega
    have hib : i < b.length := by omega
    have ha : (u8s a).toArray[i * 1]? = some (.int .u8 (a[i].toNat : Int)) := by
      rw [Nat.mul_one, List.getElem?_toArray, u8s_getElem?, List.getElem?_eq_getElem hia]
      rfl
    have hb : (u8s b).toArray[i * 1]? = some (.int .u8 (b[i].toNat : Int)) := by
      rw [Nat.mul_one, List.getElem?_toArray, u8s_getElem?, List.getElem?_eq_getElem hib]
      rfl
    have e1 : a.drop i = a[i] :: a.drop (i + 1) := List.drop_eq_getElem_cons hia
    have e2 : b.drop i = b[i] :: b.drop (i + 1) := List.drop_eq_getElem_cons hib
    rw [e1, e2, List.range'_succ]
    simp only [Op.eqItems, Sem.run_bind, run_part_plain w he ha, run_part_plain w he hb, Result.andThen_ok, run_equalIn_int w d e .u8 .u8 _ _ hu]
    by_cases hx : a[i] = b[i]
    · rw [hx]
      simp only [beq_self_eq_true, Bool.not_true, Bool.false_eq_true, if_false]
      rw [ih (i + 1) (by omega)]
      have h2 : (a.drop (i + 1) = b.drop (i + 1)) ↔ (b[i] :: a.drop (i + 1) = b[i] :: b.drop (i + 1)) := by simp only [List.cons.injEq, true_and]
      exact congrArg (fun x => Result.ok x w) (decide_eq_decide.2 h2)
    · have : (((a[i].toNat : Int)) == ((b[i].toNat : Int))) = false := by
        rw [beq_eq_false_iff_ne]
        intro h
        exact hx (UInt8.toNat_inj.1 (by omega))
      rw [this, decide_eq_false (fun h => hx (List.cons.inj h).1)]
      simp
theorem eq_bytes {t e : TypeId} {n : Nat} {i : TypeInfo} (hu : P.underlying t = some (.array n e)) (hi : P.info? e = some i) (hc : P.cellsOf e = 1) (he : P.plainKey e = true) (hue : P.underlying e = some (.int .u8)) (a b : List UInt8) (ha : a.length = n) (hb : b.length = n) (w : World) :
    (eqAt t (.agg (u8s a).toArray) (.agg (u8s b).toArray)).run P w = .ok (.bool (decide (a = b))) w := by
  unfold eqAt
  rw [run_eql_struct, run_equalIn_array w 9999 _ _ hu hi, hc, List.range_eq_range', ← ha, eqItems_bytes 9998 e he hue a b (by omega) w a.length 0 (by omega)]
  simp
end
theorem eq16 (a b : List UInt8) (ha : a.length = 16) (hb : b.length = 16) (w : World) : (eqAt 34 (.agg (u8s a).toArray) (.agg (u8s b).toArray)).run Tryz.prog w = .ok (.bool (decide (a = b))) w := by
  obtain ⟨i, hi⟩ : ∃ i, Tryz.prog.info? 5 = some i := by
    have h : (Tryz.prog.info? 5).isSome = true := by kernel_rfl
    exact Option.isSome_iff_exists.1 h
  exact eq_bytes Tryz.underlying34 hi (by kernel_rfl) (by kernel_rfl) Tryz.underlying5 a b ha hb w
end Go.Proofs.YtlbnibmcflmohaaGreat
namespace Go.Proofs.YtlbnibmcflmohaaGreat
open Go.RowKit
theorem RdS.bel {sz : Nat} {w w' : World} {A : Option Addr} {n : Nat} {xs : List Value} (h : RdS sz w A n xs) {B : Nat} (hb : Below B w w') (hB : w.heap.size ≤ B) : RdS sz w' A n xs := by
  refine ⟨h.1, fun hn => ?_⟩
  obtain ⟨b, off, e, hlt, hc⟩ := h.2 hn
  exact ⟨b, off, e, Nat.lt_of_lt_of_le hlt hb.size, fun j u hu => (hb.cell (p := ⟨b, off + j, none⟩) (Nat.lt_of_lt_of_le hlt hB)).trans (hc j u hu)⟩
section
variable {P : Program} {w : World} {o : Oper} {a : Act}
theorem ex_idxS {t e : TypeId} {x y : Operand} {g off n c p sz : Nat} (ho : o.op = .indexAddr t x y) (hx : a.eval x = .slice (some ⟨g, off, none⟩) n c) (hy : a.eval y = .int .i64 (p : Int)) (hp : p < n) (hu : P.underlying t = some (.slice e)) (hz : ∀ w, (sizeOf e).run P w = .ok sz w) : (execOp a.eval o).run P w = .ok (.value (.pointer (some ⟨g, off + p * sz, none⟩))) w := by
  unfold execOp
  simp [ho, hx, hy, Instr.indexAt, asIntOf, run_underlying hu, hz, hp, Addr.add]
end
end Go.Proofs.YtlbnibmcflmohaaGreat
