/- LexSpells, the walk. -/
import Derived.Test.YtkpacpkldjfbhaaLexSq
import Derived.Test.YtkpacpkldjfbhaaLexPlacesW
namespace Go.Proofs.Ytkpacpkldjfbhaa.lexSpells
open Go.RowKit

def ofTok (t : Lx.Tok) : GT := ⟨t.kind, bytesOf t.text, t.num, t.at_⟩
theorem toks_gts (ts : List Lx.Tok) : toksCells ts = gtsCells (ts.map ofTok) := by
  induction ts with
  | nil => rfl
  | cons t r ih =>
    have e : toksCells (t :: r) = tokCells t ++ toksCells r := by simp [toksCells]
    rw [e, ih]; rfl
theorem gWord_tok (t : Lx.Tok) : gWord (ofTok t) = if t.kind = 6 then none else some (Lx.word t) := by
  unfold gWord ofTok Lx.word
  by_cases h6 : t.kind = 6
  · rw [if_pos (by show (t.kind : Int) = 6; omega), if_pos h6]
  · rw [if_neg (by show ¬ (t.kind : Int) = 6; omega), if_neg h6]
    by_cases h4 : t.kind = 4
    · rw [if_pos (by show (t.kind : Int) = 4; omega), if_pos h4]; rfl
    · rw [if_neg (by show ¬ (t.kind : Int) = 4; omega), if_neg h4]; rfl
theorem spell_toks {us : List Lx.Tok} {m : Nat} (hg : ∀ t ∈ us, Lx.Good t) : gSpell ((us ++ [(⟨6, [], 0, m⟩ : Lx.Tok)]).map ofTok) = Lx.glue us := by
  unfold gSpell
  rw [Lx.glue_join]
  congr 1
  unfold gWords
  rw [List.map_append, List.filterMap_append]
  have e1 : ([(⟨6, [], 0, m⟩ : Lx.Tok)].map ofTok).filterMap gWord = [] := by simp [gWord_tok]
  rw [e1, List.append_nil]
  induction us with
  | nil => rfl
  | cons t r ih =>
    rw [List.map_cons, List.filterMap_cons, gWord_tok, if_neg (hg t (by simp)).1, ih fun u hu => hg u (by simp [hu])]
    rfl
theorem glue_key {us vs : List Lx.Tok} (h : vs.map Lx.key = us.map Lx.key) : Lx.glue vs = Lx.glue us := by
  rw [Lx.glue_join, Lx.glue_join]
  congr 1
  have : ∀ t : Lx.Tok, Lx.word t = (fun k : Nat × List UInt8 × Nat => if k.1 = 4 then Lx.quote k.2.1 else k.2.1) (Lx.key t) := fun t => rfl
  have e : ∀ l : List Lx.Tok, l.map Lx.word = (l.map Lx.key).map fun k : Nat × List UInt8 × Nat => if k.1 = 4 then Lx.quote k.2.1 else k.2.1 := fun l => by rw [List.map_map]; rfl
  rw [e, e, h]
theorem good_key {us vs : List Lx.Tok} (h : vs.map Lx.key = us.map Lx.key) (hg : ∀ t ∈ us, t.kind ≠ 6) : ∀ t ∈ vs, t.kind ≠ 6 := by
  intro t ht
  have : Lx.key t ∈ us.map Lx.key := h ▸ List.mem_map_of_mem ht
  obtain ⟨u, hu, e⟩ := List.mem_map.1 this
  have : u.kind = t.kind := congrArg Prod.fst e
  rw [← this]
  exact hg u hu
theorem spell_toks' {us : List Lx.Tok} {m : Nat} (hg : ∀ t ∈ us, t.kind ≠ 6) : gSpell ((us ++ [(⟨6, [], 0, m⟩ : Lx.Tok)]).map ofTok) = Lx.glue us := by
  unfold gSpell
  rw [Lx.glue_join]
  congr 1
  unfold gWords
  rw [List.map_append, List.filterMap_append]
  have e1 : ([(⟨6, [], 0, m⟩ : Lx.Tok)].map ofTok).filterMap gWord = [] := by simp [gWord_tok]
  rw [e1, List.append_nil]
  induction us with
  | nil => rfl
  | cons t r ih =>
    rw [List.map_cons, List.filterMap_cons, gWord_tok, if_neg (hg t (by simp)), ih fun u hu => hg u (by simp [hu])]
    rfl
theorem same_key {us vs : List Lx.Tok} {m m' : Nat} (h : vs.map Lx.key = us.map Lx.key) : ∀ (i : Nat) (t t' : Lx.Tok), (vs ++ [(⟨6, [], 0, m⟩ : Lx.Tok)])[i]? = some t → (us ++ [(⟨6, [], 0, m'⟩ : Lx.Tok)])[i]? = some t' → t.kind = t'.kind ∧ t.text = t'.text ∧ t.num = t'.num ∧ (false = true → t.at_ = t'.at_) := by
  intro i t t' h1 h2
  have hk : (vs ++ [(⟨6, [], 0, m⟩ : Lx.Tok)]).map Lx.key = (us ++ [(⟨6, [], 0, m'⟩ : Lx.Tok)]).map Lx.key := by rw [List.map_append, List.map_append, h]; rfl
  have e1 : ((vs ++ [(⟨6, [], 0, m⟩ : Lx.Tok)]).map Lx.key)[i]? = some (Lx.key t) := by rw [List.getElem?_map, h1]; rfl
  have e2 : ((us ++ [(⟨6, [], 0, m'⟩ : Lx.Tok)]).map Lx.key)[i]? = some (Lx.key t') := by rw [List.getElem?_map, h2]; rfl
  rw [hk, e2] at e1
  injection e1 with e1
  injection e1 with a b
  injection b with b c
  exact ⟨a.symm, b.symm, c.symm, fun h => by cases h⟩
theorem text_small {s : List UInt8} {us : List Lx.Tok} {m : Nat} (hs : s.length ≤ 8000) (h : ∀ t ∈ us, t.text.length ≤ s.length) : ∀ t ∈ (us ++ [(⟨6, [], 0, m⟩ : Lx.Tok)]).map ofTok, t.text.size ≤ 67108864 := by
  intro t ht
  obtain ⟨u, hu, rfl⟩ := List.mem_map.1 ht
  have e : (ofTok u).text.size = u.text.length := by show (bytesOf u.text).size = _; unfold bytesOf; exact List.size_toArray
  rw [e]
  rcases List.mem_append.1 hu with hu | hu
  · have := h u hu; omega
  · simp at hu; subst hu; simp
theorem glue_mem {us : List Lx.Tok} {t : Lx.Tok} (h : t ∈ us) : (Lx.word t).length ≤ (Lx.glue us).length := by
  induction us with
  | nil => cases h
  | cons a r ih =>
    cases r with
    | nil => simp at h; subst h; simp [Lx.glue]
    | cons u r =>
      simp only [Lx.glue, List.length_append, List.length_cons]
      rcases List.mem_cons.1 h with rfl | h
      · omega
      · have := ih h; omega
theorem word_text (t : Lx.Tok) : t.text.length ≤ (Lx.word t).length := by
  unfold Lx.word
  split
  · have := (Lx.quote_len t.text).1; omega
  · exact Nat.le_refl _

/-- the first comparison, whatever follows -/
def FirstOk (w : World) (A : Option Addr) (n : Nat) (l : List GT) : Prop := RdS 4 w A n (gtsCells l) ∧ n ≤ 300 ∧ ∀ t ∈ l, t.text.size ≤ 67108864
theorem gts_one (l : List GT) : ∀ u ∈ gtsCells l, u.oneCell' = true := by
  intro u hu
  obtain ⟨t, _, ht⟩ := List.mem_flatMap.1 hu
  simp [gtCells] at ht
  rcases ht with rfl | rfl | rfl | rfl <;> rfl
theorem far2 {w : World} {A : Option Addr} {n g : Nat} {t : TypeId} {xs : List Value} {p q v v' : Value} (h : RdS 4 w A n xs) (hb : Blk w g t [p, q]) : RdS 4 ((w.setCell ⟨g, 0, none⟩ v).setCell ⟨g, 1, none⟩ v') A n xs :=
  ⟨h.1, fun hn => by
    obtain ⟨b, off, e, hbl, hc⟩ := h.2 hn
    subst e
    have hne : b ≠ g := by
      rintro rfl
      have hl : 3 < xs.length := by have := h.1; omega
      have h3 := hc 3 _ (List.getElem?_eq_getElem hl)
      rw [hb.cell] at h3
      simp at h3
    refine ⟨b, off, rfl, by simpa [World.setCell] using hbl, fun j u hu => ?_⟩
    exact (World.grownBy.cell_far (((Only.refl w g).setCell 0 v).setCell 1 v').grown ⟨b, off + j, none⟩ hbl (fun e => hne (by injection e))).trans (hc j u hu)⟩
set_option maxRecDepth 100000 in
set_option maxHeartbeats 4000000 in
theorem bad (s : ByteArray) (A : Option Addr) (n c : Nat) (l : List GT) (w : World) (X : ByteArray) (HX : Hid (X = bytesOf (gSpell l))) (h : FirstOk w A n l) {p q : Nat} (hsc : Lx.scan s.data.toList = ((p, q), [])) (hp : p ≠ 0) :
    Calls Try.prog 9 #[.string s, .slice A n c] w fun e w' => e = .returned (.bool true) ∧ Below w.heap.size w w' := by
  have e0 : decide ((300 : Int) < (n : Int)) = false := by have := h.2.1; simp; omega
  have own0 : Hid (∀ W' : World, (W'.alloc (.cells #[] 54)).ownsRow W'.heap.size 54 4 (.slice (some ⟨W'.heap.size, 0, none⟩) 0 0) 0 []) := fun W' => ⟨rfl, .inr ⟨W'.heap.size, 0, #[], rfl, Nat.le_refl _, heap_alloc_new W' _, Nat.le_refl _, by simp [maxLen], rfl, rfl⟩⟩
  have H1 : Hid (∀ W A1 c1, RdS 4 W A1 n (gtsCells l) → Calls Try.prog 32 #[.slice A1 n c1] W fun e w' => e = .returned (.string X) ∧ Below W.heap.size W w') := fun W A1 c1 hr => HX.out ▸ spell_any A1 n c1 l W hr (by have := h.2.1; omega) h.2.2
  have H2 : Hid (∀ W A1 c1, RdS 4 W A1 n (gtsCells l) → Calls Try.prog 33 #[.slice A1 n c1] W fun e w' => e = .returned (.string X) ∧ Below W.heap.size W w') := fun W A1 c1 hr => HX.out ▸ rspell_any A1 n c1 l W hr (by have := h.2.1; omega) h.2.2
  have HR := Lib.hid h.1
  have hkn := h.2.1
  have hone : Hid (∀ u ∈ gtsCells l, u.oneCell' = true) := gts_one l
  have eX : (X.toList == X.toList) = true := by simp
  have HSC := Lib.hid (fun w => scan_is s w hsc (n := 0) rfl)
  have e1 : ((p : Int) != 0) = true := by rw [bne_iff_ne]; omega
  clear h hsc hp
  go_enter Try.func9, Try.ntmps9
  go_wp2_with (first
    | (go_at_call 20; refine (awake21 _).mono ?_; rintro e w1 ⟨rfl, hB1⟩; have HR1 := Lib.hid (HR.out.below hB1))
    | (at_builtin; refine wpList_app rfl (.tmp 16) (.tmp 17) _ rfl w1.heap.size 54 4 40 Try.underlying46 eTok (.slice (some ⟨w1.heap.size, 0, none⟩) 0 0) 0 [] (by rfl) (own0.out _) A n c (gtsCells l) (by rfl) (by exact HR1.out.alloc _) hone.out (by omega) (by omega) (by simp) ?_
       intro A2 c2 w2 hown2 hc2 hg2 hat2
       have hB2 : Below w1.heap.size w1 w2 := ((Below.refl _ _).alloc (Nat.le_refl _) _).grown hg2 (by simp) (by intro k hk; simp [Value.ownBlock] at hk; omega)
       rw [Nat.zero_add, List.nil_append] at hown2
       rw [Nat.zero_add]
       have HO2 := Lib.hid (RdS.of_own hown2)
       have HR2 := Lib.hid (HR1.out.below hB2)
       clear hown2 hc2 hg2 hat2)
    | (go_at_call 33; (with_reducible refine (H2.out _ _ _ (by exact HR3.out)).mono ?_); rintro e w4 ⟨rfl, hB4⟩
       have HB4 := Lib.hid (((hB1.trans (hB2.mono hB1.size)).trans (hB3.mono (Nat.le_trans hB1.size hB2.size))).trans (hB4.mono (Nat.le_trans (Nat.le_trans hB1.size hB2.size) hB3.size))))
    | (go_at_call 32; (with_reducible refine (H1.out _ _ _ (by exact HO2.out)).mono ?_); rintro e w3 ⟨rfl, hB3⟩; have HR3 := Lib.hid (HR2.out.below hB3))
    | (go_at_call 21; refine (HSC.out _).mono ?_; rintro e w5 ⟨A5, c5, rfl, hc5, hown5, hB5⟩))
  go_ret
  have h5 := HB4.out.trans (hB5.mono HB4.out.size)
  exact ⟨rfl, h5.alloc h5.size _⟩
set_option maxRecDepth 100000 in
set_option maxHeartbeats 4000000 in
theorem bad_cut (s : ByteArray) (A : Option Addr) (n c : Nat) (l : List GT) (w : World) (X : ByteArray) (HX : Hid (X = bytesOf (gSpell l))) (h : FirstOk w A 300 l) (hc : 300 < n) (hnc : n ≤ c) (hn : n ≤ 140737488355328) (hA : ∃ b off, A = some ⟨b, off, none⟩) {p q : Nat} (hsc : Lx.scan s.data.toList = ((p, q), [])) (hp : p ≠ 0) :
    Calls Try.prog 9 #[.string s, .slice A n c] w fun e w' => e = .returned (.bool true) ∧ Below w.heap.size w w' := by
  have e0 : decide ((300 : Int) < (n : Int)) = true := by simp; omega
  obtain ⟨b0, o0, rfl⟩ := hA
  have c0 : (300 : Int) ≤ (c : Int) := by omega
  have own0 : Hid (∀ W' : World, (W'.alloc (.cells #[] 54)).ownsRow W'.heap.size 54 4 (.slice (some ⟨W'.heap.size, 0, none⟩) 0 0) 0 []) := fun W' => ⟨rfl, .inr ⟨W'.heap.size, 0, #[], rfl, Nat.le_refl _, heap_alloc_new W' _, Nat.le_refl _, by simp [maxLen], rfl, rfl⟩⟩
  have H1 : Hid (∀ W A1 c1, RdS 4 W A1 300 (gtsCells l) → Calls Try.prog 32 #[.slice A1 300 c1] W fun e w' => e = .returned (.string X) ∧ Below W.heap.size W w') := fun W A1 c1 hr => HX.out ▸ spell_any A1 300 c1 l W hr (by have := h.2.1; omega) h.2.2
  have H2 : Hid (∀ W A1 c1, RdS 4 W A1 300 (gtsCells l) → Calls Try.prog 33 #[.slice A1 300 c1] W fun e w' => e = .returned (.string X) ∧ Below W.heap.size W w') := fun W A1 c1 hr => HX.out ▸ rspell_any A1 300 c1 l W hr (by have := h.2.1; omega) h.2.2
  have HR := Lib.hid h.1
  have hkn := h.2.1
  have hone : Hid (∀ u ∈ gtsCells l, u.oneCell' = true) := gts_one l
  have eX : (X.toList == X.toList) = true := by simp
  have HSC := Lib.hid (fun w => scan_is s w hsc (n := 0) rfl)
  have e1 : ((p : Int) != 0) = true := by rw [bne_iff_ne]; omega
  clear h hsc hp
  go_enter Try.func9, Try.ntmps9
  go_wp2_with (first
    | (go_at_call 20; refine (awake21 _).mono ?_; rintro e w1 ⟨rfl, hB1⟩; have HR1 := Lib.hid (HR.out.below hB1))
    | (at_builtin; refine wpList_app rfl (.tmp 16) (.tmp 17) _ rfl w1.heap.size 54 4 40 Try.underlying46 eTok (.slice (some ⟨w1.heap.size, 0, none⟩) 0 0) 0 [] (by rfl) (own0.out _) (some ⟨b0, o0, none⟩) 300 c (gtsCells l) (by rfl) (by exact HR1.out.alloc _) hone.out (by omega) (by omega) (by simp) ?_
       intro A2 c2 w2 hown2 hc2 hg2 hat2
       have hB2 : Below w1.heap.size w1 w2 := ((Below.refl _ _).alloc (Nat.le_refl _) _).grown hg2 (by simp) (by intro k hk; simp [Value.ownBlock] at hk; omega)
       rw [Nat.zero_add, List.nil_append] at hown2
       rw [Nat.zero_add]
       have HO2 := Lib.hid (RdS.of_own hown2)
       have HR2 := Lib.hid (HR1.out.below hB2)
       clear hown2 hc2 hg2 hat2)
    | (go_at_call 33; (with_reducible refine (H2.out _ _ _ (by exact HR3.out)).mono ?_); rintro e w4 ⟨rfl, hB4⟩
       have HB4 := Lib.hid (((hB1.trans (hB2.mono hB1.size)).trans (hB3.mono (Nat.le_trans hB1.size hB2.size))).trans (hB4.mono (Nat.le_trans (Nat.le_trans hB1.size hB2.size) hB3.size))))
    | (go_at_call 32; (with_reducible refine (H1.out _ _ _ (by exact HO2.out)).mono ?_); rintro e w3 ⟨rfl, hB3⟩; have HR3 := Lib.hid (HR2.out.below hB3))
    | (go_at_call 21; refine (HSC.out _).mono ?_; rintro e w5 ⟨A5, c5, rfl, hc5, hown5, hB5⟩))
  go_ret
  have h5 := HB4.out.trans (hB5.mono HB4.out.size)
  exact ⟨rfl, h5.alloc h5.size _⟩
end Go.Proofs.Ytkpacpkldjfbhaa.lexSpells
