/- shallotref21.Spell: the words of tokens of any kind, one blank between two. -/
import Derived.Test.YtkpacpkldjfbhaaLexW
import Derived.Test.YtkpacpkldjfbhaaLexRq
import Derived.Test.YtkpacpkldjfbhaaLexV
import Derived.Lib.AtoiErrMem
namespace Go.Proofs.Ytkpacpkldjfbhaa
open Go.RowKit

/-- a token of any kind -/
structure GT where
  kind : Int
  text : ByteArray
  num : Int
  at_ : Int
def gtCells (t : GT) : List Value := [.int .i64 t.kind, .string t.text, .int .i64 t.num, .int .i64 t.at_]
def gtsCells (l : List GT) : List Value := l.flatMap gtCells
def gWord (t : GT) : Option (List UInt8) := if t.kind = 6 then none else some (if t.kind = 4 then Lx.quote t.text.data.toList else t.text.data.toList)
def gWords (l : List GT) : List (List UInt8) := l.filterMap gWord
def gSpell (l : List GT) : List UInt8 := Lib.join (gWords l) [32]

theorem gts_get {l : List GT} {i : Nat} {t : GT} (h : l[i]? = some t) : (gtsCells l)[i * 4 + 0]? = some (.int .i64 t.kind) ∧ (gtsCells l)[i * 4 + 1]? = some (.string t.text) ∧ (gtsCells l)[i * 4 + 2]? = some (.int .i64 t.num) ∧ (gtsCells l)[i * 4 + 3]? = some (.int .i64 t.at_) := by
  induction l generalizing i with
  | nil => simp at h
  | cons a l ih =>
    cases i with
    | zero => simp at h; subst h; simp [gtsCells, gtCells]
    | succ i =>
      simp at h
      have := ih h
      have e : ∀ j, (i + 1) * 4 + j = (i * 4 + j) + 4 := fun j => by omega
      have e2 : gtsCells (a :: l) = gtCells a ++ gtsCells l := by simp [gtsCells]
      have e3 : ∀ j, (gtCells a ++ gtsCells l)[(i * 4 + j) + 4]? = (gtsCells l)[i * 4 + j]? := fun j => by
        rw [List.getElem?_append_right (by simp [gtCells])]; simp [gtCells]
      simp only [e, e2, e3]
      exact this
theorem gts_len (l : List GT) : (gtsCells l).length = l.length * 4 := by
  induction l with
  | nil => rfl
  | cons a l ih => simp only [gtsCells, List.flatMap_cons, List.length_append, List.length_cons] at *; rw [ih]; simp [gtCells]; omega

theorem join_snoc (ws : List (List UInt8)) (x : List UInt8) (h : ws ≠ []) : Lib.join (ws ++ [x]) [32] = Lib.join ws [32] ++ 32 :: x := by
  cases ws with
  | nil => exact absurd rfl h
  | cons a r =>
    rw [List.cons_append, Lib.join_cons, Lib.join_cons]
    simp [Lib.joinTail]
theorem gWords_step {l : List GT} {k : Nat} {t : GT} (h : l[k]? = some t) : gWords (l.take (k + 1)) = gWords (l.take k) ++ (gWord t).toList := by
  unfold gWords
  rw [List.take_add_one, h, List.filterMap_append]
  cases hw : gWord t <;> simp [hw]
theorem gSpell_end {l : List GT} {k : Nat} {t : GT} (h : l[k]? = some t) (hk : t.kind = 6) : gWords (l.take (k + 1)) = gWords (l.take k) := by
  rw [gWords_step h]; simp [gWord, hk]
theorem gSpell_first {l : List GT} {k : Nat} {t : GT} {x : List UInt8} (h : l[k]? = some t) (hx : gWord t = some x) (he : gWords (l.take k) = []) : gSpell (l.take (k + 1)) = x := by
  unfold gSpell; rw [gWords_step h, hx, he]; simp [Lib.join_one]
theorem gSpell_next {l : List GT} {k : Nat} {t : GT} {x : List UInt8} (h : l[k]? = some t) (hx : gWord t = some x) (he : gWords (l.take k) ≠ []) : gSpell (l.take (k + 1)) = gSpell (l.take k) ++ 32 :: x := by
  unfold gSpell; rw [gWords_step h, hx]; exact join_snoc _ _ he
theorem gWord_len {t : GT} {x : List UInt8} (h : gWord t = some x) : x.length ≤ 4 * t.text.size + 2 := by
  unfold gWord at h
  split at h
  · cases h
  · injection h with h
    subst h
    split
    · have := (Lx.quote_len t.text.data.toList).2
      simpa using this
    · simp; omega
theorem gSpell_len (M : Nat) (l : List GT) (h : ∀ t ∈ l, t.text.size ≤ M) : (gSpell l).length ≤ l.length * (4 * M + 3) := by
  have hw : ∀ l : List GT, (∀ t ∈ l, t.text.size ≤ M) → (Lib.joinTail [32] (gWords l)).length ≤ l.length * (4 * M + 3) := by
    intro l
    induction l with
    | nil => intro _; simp [gWords, Lib.joinTail]
    | cons a l ih =>
      intro h
      have := ih fun t ht => h t (by simp [ht])
      have ha := h a (by simp)
      cases hx : gWord a with
      | none =>
        have e : gWords (a :: l) = gWords l := by simp [gWords, hx]
        rw [e, List.length_cons, Nat.add_mul]; omega
      | some x =>
        have e : gWords (a :: l) = x :: gWords l := by simp [gWords, hx]
        have := gWord_len hx
        rw [e, List.length_cons, Nat.add_mul]
        simp only [Lib.joinTail, List.map_cons, List.flatten_cons, List.length_append, List.length_cons, List.length_nil] at *
        omega
  have := hw l h
  unfold gSpell
  cases hl : gWords l with
  | nil => simp [Lib.join_nil]
  | cons x r =>
    rw [hl] at this
    rw [Lib.join_cons]
    simp only [Lib.joinTail, List.map_cons, List.flatten_cons, List.length_append, List.length_cons, List.length_nil] at *
    omega

/-- []byte(T) -/
theorem conv_bytes (w : World) (T : ByteArray) : ∃ (c : Nat) (w' : World), (convert 9 29 (.string T)).run Try.prog w = .ok (.slice (some ⟨w.heap.size, 0, none⟩) T.size c) w' ∧ T.size ≤ c ∧ Hid (Rd w' (some ⟨w.heap.size, 0, none⟩) T.size (u8s T.data.toList)) ∧ Hid (Below w.heap.size w w') := by
  refine ⟨_, _, Lib.run_convert_string_bytes w _ _ _ T Try.underlying9 Try.underlying29 Try.underlying5, grownCap_ge _ _ _ _, ?_, Lib.bytesWorld_below _ _ _⟩
  refine ⟨by simp [u8s], fun h => ⟨w.heap.size, 0, rfl, by rw [Lib.bytesWorld_size]; omega, fun j u hu => ?_⟩⟩
  rw [u8s_getElem?] at hu
  rw [Option.map_eq_some_iff] at hu
  obtain ⟨x, hx, rfl⟩ := hu
  have hj : j < T.size := by have := (List.getElem?_eq_some_iff.1 hx).1; simpa using this
  rw [Nat.zero_add, Lib.bytesWorld_cell w _ T j hj]
  rw [List.getD_eq_getElem?_getD, hx]
  rfl

theorem spelled_cat {S T : ByteArray} {a x : List UInt8} (hS : S.data.toList = a) (hT : T.data.toList = x) : (S ++ { data := #[32] } ++ T).data.toList = a ++ 32 :: x := by
  rw [← hS, ← hT]; simp
theorem spelled_one {S T : ByteArray} {x : List UInt8} (hS : S.data.toList = []) (hT : T.data.toList = x) : (S ++ T).data.toList = x := by
  rw [← hT]; simp at hS ⊢; rw [hS]
theorem some_word {l : List GT} {k : Nat} {t : GT} {x : List UInt8} (h : l[k]? = some t) (hx : gWord t = some x) : (false = true) ↔ gWords (l.take (k + 1)) = [] := by
  rw [gWords_step h, hx]; simp

set_option maxRecDepth 100000 in
set_option maxHeartbeats 4000000 in
theorem rspell_any (A : Option Addr) (n c : Nat) (l : List GT) (w : World) (h : RdS 4 w A n (gtsCells l)) (hn : n ≤ 10000) (ht : ∀ t ∈ l, t.text.size ≤ 67108864) :
    Calls Try.prog 33 #[.slice A n c] w fun e w' => e = .returned (.string (bytesOf (gSpell l))) ∧ Below w.heap.size w w' := by
  have hl : l.length = n := by have := h.1; rw [gts_len] at this; omega
  have HL := Lib.hid hl
  have HT := Lib.hid ht
  clear hl ht
  go_enter Try.func33, Try.ntmps33
  go_wp2_with fail
  go_loopg [3, 4, 5] n (fun k o f q wr => ∃ (i : Nat) (S : ByteArray) (B : Bool), i ≤ n ∧ k = n - i ∧ q = .int .i64 i ∧ o = .string S ∧ f = .bool B ∧ Below w.heap.size w wr ∧ Hid (S.data.toList = gSpell (l.take i)) ∧ Hid (B = true ↔ gWords (l.take i) = []))
  case atStart => exact ⟨0, _, true, by omega, rfl, rfl, rfl, rfl, Below.refl _ _, rfl, by show _ ↔ _; simp [gWords]⟩
  case round =>
    obtain ⟨i, S, B, hi, hgk, rfl, rfl, rfl, hBr, HS, HB⟩ := hrel
    have HGK := Lib.hid hgk
    clear hgk
    by_cases hlt : i < n
    · obtain ⟨b, off, rfl, hb, hc⟩ := (h.keep hBr.size fun p hp => hBr.cell hp).2 (by omega)
      obtain ⟨t, ht⟩ : ∃ t, l[i]? = some t := ⟨_, List.getElem?_eq_getElem (by rw [HL.out]; exact hlt)⟩
      obtain ⟨x0, x1, _, _⟩ := gts_get ht
      have d0 := hc _ _ x0
      have d1 := hc _ _ x1
      rw [Nat.add_zero] at d0
      rw [← Nat.add_assoc] at d1
      have HI := Lib.hid ht
      have hsz : t.text.size ≤ 67108864 := HT.out t (List.mem_of_getElem? ht)
      have hM : Hid (n - (i + 1) < gk) := by have := HGK.out; show n - (i + 1) < gk; omega
      have i0 : (0 : Int) ≤ (i : Int) := by omega
      have i1 : (i : Int) < (n : Int) := by omega
      have hSl : S.size ≤ 100000000000000 := by
        have := gSpell_len 67108864 (l.take i) fun t ht => HT.out t (List.mem_of_mem_take ht)
        rw [← HS.out] at this
        simp at this
        have : min i l.length ≤ 10000 := by omega
        have h2 : min i l.length * 268435459 ≤ 10000 * 268435459 := Nat.mul_le_mul_right _ this
        omega
      clear x0 x1 ht hc
      by_cases hk : t.kind = 6
      · have e1 : (t.kind == 6) = true := by rw [hk]; rfl
        have e2 := gSpell_end HI.out hk
        have HN : Hid (gWords (l.take (i + 1)) = gWords (l.take i)) := e2
        clear hk e2
        go_wp2_with fail
        go_roundg (n - (i + 1))
        case measure => exact hM.out
        case rel => exact ⟨i + 1, S, B, hlt, rfl, by go_num, rfl, rfl, hBr, by show _ = _; rw [HS.out]; unfold gSpell; rw [HN.out], by show _ ↔ _; rw [HN.out]; exact HB.out⟩
      · have e1 : (t.kind == 6) = false := by rw [beq_eq_false_iff_ne]; exact hk
        have HK := Lib.hid hk
        clear hk
        by_cases hq : t.kind = 4
        · have e2 : (t.kind == 4) = true := by rw [hq]; rfl
          have HW : Hid (gWord t = some (Lx.quote t.text.data.toList)) := by show _ = _; unfold gWord; rw [if_neg HK.out, if_pos hq]
          clear hq
          obtain ⟨c1, w1, hcv, hc1, HR1, HB1⟩ := conv_bytes wr t.text
          obtain ⟨Q, hQ⟩ : ∃ Q, Q = bytesOf (Lx.quote t.text.data.toList) := ⟨_, rfl⟩
          have hQs : Q.size ≤ 268435458 := by
            have := (Lx.quote_len t.text.data.toList).2
            rw [hQ]
            have h2 : (bytesOf (Lx.quote t.text.data.toList)).size = (Lx.quote t.text.data.toList).length := by unfold bytesOf; exact List.size_toArray
            have h3 : t.text.data.toList.length = t.text.size := by simp
            omega
          have HQ : Hid (Q.data.toList = Lx.quote t.text.data.toList) := by rw [hQ]; rfl
          have HRQ : Hid (Calls Try.prog 25 #[.slice (some ⟨wr.heap.size, 0, none⟩) t.text.size c1] w1 fun e w' => e = .returned (.string Q) ∧ Below w1.heap.size w1 w') := hQ ▸ rquote_any _ _ _ t.text.data.toList _ HR1.out (by omega) hc1
          clear hQ
          cases B
          · have HP : Hid (gWords (l.take i) ≠ []) := fun e => by have := HB.out.2 e; cases this
            go_wp2_with (go_at_call 25; (with_reducible refine HRQ.out.mono ?_); rintro e w2 ⟨rfl, hB2⟩)
            have HB2 := Lib.hid ((hBr.trans (HB1.out.mono hBr.size)).trans (hB2.mono (Nat.le_trans hBr.size HB1.out.size)))
            go_roundg (n - (i + 1))
            case measure => exact hM.out
            case rel => exact ⟨i + 1, _, false, hlt, rfl, by go_num, rfl, rfl, HB2.out, (by show _ = _; rw [gSpell_next HI.out HW.out HP.out]; exact spelled_cat HS.out HQ.out), some_word HI.out HW.out⟩
          · have HP : Hid (gWords (l.take i) = []) := HB.out.1 rfl
            go_wp2_with (go_at_call 25; (with_reducible refine HRQ.out.mono ?_); rintro e w2 ⟨rfl, hB2⟩)
            have HB2 := Lib.hid ((hBr.trans (HB1.out.mono hBr.size)).trans (hB2.mono (Nat.le_trans hBr.size HB1.out.size)))
            go_roundg (n - (i + 1))
            case measure => exact hM.out
            case rel => exact ⟨i + 1, _, false, hlt, rfl, by go_num, rfl, rfl, HB2.out, (by show _ = _; rw [gSpell_first HI.out HW.out HP.out]; exact spelled_one (by rw [HS.out]; unfold gSpell; rw [HP.out]; rfl) HQ.out), some_word HI.out HW.out⟩
        · have e2 : (t.kind == 4) = false := by rw [beq_eq_false_iff_ne]; exact hq
          have HW : Hid (gWord t = some t.text.data.toList) := by show _ = _; unfold gWord; rw [if_neg HK.out, if_neg hq]
          clear hq
          cases B
          · have HP : Hid (gWords (l.take i) ≠ []) := fun e => by have := HB.out.2 e; cases this
            go_wp2_with fail
            go_roundg (n - (i + 1))
            case measure => exact hM.out
            case rel => exact ⟨i + 1, _, false, hlt, rfl, by go_num, rfl, rfl, hBr, (by show _ = _; rw [gSpell_next HI.out HW.out HP.out]; exact spelled_cat HS.out rfl), some_word HI.out HW.out⟩
          · have HP : Hid (gWords (l.take i) = []) := HB.out.1 rfl
            go_wp2_with fail
            go_roundg (n - (i + 1))
            case measure => exact hM.out
            case rel => exact ⟨i + 1, _, false, hlt, rfl, by go_num, rfl, rfl, hBr, (by show _ = _; rw [gSpell_first HI.out HW.out HP.out]; exact spelled_one (by rw [HS.out]; unfold gSpell; rw [HP.out]; rfl) rfl), some_word HI.out HW.out⟩
    · go_wp2_with fail
      go_ret
      refine ⟨?_, hBr⟩
      have := HS.out
      rw [List.take_of_length_le (by rw [HL.out]; omega)] at this
      rw [← this]
      rfl
end Go.Proofs.Ytkpacpkldjfbhaa
