/- Part of the proof: Lex8, Lex9. -/
import Derived.Deep.LoopGhost
import Derived.Laws.BytesString
import Derived.Deep.RegionLaw
import Derived.StillTailTactics
import Derived.Test.YtafjkbbiaopemaaGreatDoorTox07
set_option linter.unusedVariables false
namespace Go.Proofs.YtafjkbbiaopemaaGreatDoor
open Go.RowKit
theorem esc_two {r : List UInt8} {m : UInt8} {k : Nat} (he : Lx.esc r = some (m, k)) : 2 ≤ k ∧ k ≤ r.length + 1 := by
  unfold Lx.esc at he
  cases r with
  | nil => cases he
  | cons d r =>
    simp only [] at he
    split at he
    · injection he with he; injection he with _ he; simp; omega
    · split at he
      · injection he with he; injection he with _ he; simp; omega
      · split at he
        · split at he
          · split at he
            · injection he with he; injection he with _ he; simp; omega
            · cases he
          · cases he
        · cases he
theorem text_fuel : ∀ (f : Nat) (r acc : List UInt8), r.length < f → ∀ g, r.length < g → Lx.text f r acc = Lx.text g r acc := by
  intro f
  induction f with
  | zero => intro r acc h; omega
  | succ f ih =>
    intro r acc h g hg
    obtain ⟨g, rfl⟩ : ∃ g', g = g' + 1 := ⟨g - 1, by omega⟩
    cases r with
    | nil => rfl
    | cons c r =>
      simp only [List.length_cons] at h hg
      unfold Lx.text
      simp only []
      split
      · rfl
      · split
        · cases he : Lx.esc r with
          | none => rfl
          | some p =>
            obtain ⟨m, k⟩ := p
            simp only []
            have hk := esc_two he
            exact ih _ _ (by simp; omega) g (by simp; omega)
        · split
          · rfl
          · exact ih _ _ (by omega) g (by omega)
theorem push_bytes (l : List UInt8) : ∀ s : ByteArray, ((l.map fun c => ((c.toNat : Nat) : Int)).foldl (fun r n => r.push (UInt8.ofNat n.toNat)) s).data = s.data ++ l.toArray := by
  induction l with
  | nil => intro s; simp
  | cons c l ih =>
    intro s
    rw [List.map_cons, List.foldl_cons, ih]
    apply Array.toList_inj.1
    simp [ByteArray.push]
theorem run_str {P : Program} {w : World} {src dst e : TypeId} {A : Option Addr} {n c : Nat} {l : List UInt8} (hs : P.underlying src = some (.slice e)) (he : P.underlying e = some (.int .u8)) (hd : P.underlying dst = some .string) (hr : Rd w A n (u8s l)) :
    (convert src dst (.slice A n c)).run P w = .ok (.string (bytesOf l)) w := by
  rw [run_convert_bytes_string w src dst e A n c hs he hd]
  have hl := hr.len
  rcases Nat.eq_zero_or_pos n with h0 | h0
  · subst h0
    have : l = [] := List.eq_nil_of_length_eq_zero hl
    subst this
    cases A with
    | none => simp [Conv.bytesToString, bytesOf]; rfl
    | some a =>
      have := run_bytesToString (P := P) w a 0 c [] (by simp [loadCells, loadCellsFrom])
      rw [this]
      rfl
  · obtain ⟨b, off, rfl, hb, hc⟩ := hr.2 h0
    have hload := run_loadCells_list (P := P) w ⟨b, off, none⟩ (u8s l) (fun j v hv => by rw [Addr.add_mid]; exact hc j v hv)
    rw [u8s_length, hl] at hload
    have := run_bytesToString (P := P) w ⟨b, off, none⟩ n c (l.map fun c => ((c.toNat : Nat) : Int)) (by rw [hload]; simp [u8s, u8])
    rw [this]
    congr 2
    apply ByteArray.ext
    rw [push_bytes]
    simp [bytesOf]
section
variable {P : Program} {w : World} {ops : Array Oper} {rest : List Oper} {o : Oper} {a : Act} {K : Act → World → Prop} {Q : Exit → Act → World → Prop}
theorem wp_str (src dst : TypeId) (x : Operand) (ho : o.op = .convert src dst x) (e : TypeId) (hs : P.underlying src = some (.slice e)) (he : P.underlying e = some (.int .u8)) (hd : P.underlying dst = some .string)
    (A : Option Addr) (n c : Nat) (hx : a.eval x = .slice A n c) (l : List UInt8) (hr : Rd w A n (u8s l)) (h : K (a.put o.dst (.string (bytesOf l))) w) : o.wp P a w K Q := by
  refine wp_val (v := .string (bytesOf l)) ?_ h
  unfold execOp
  simp only [ho, hx, Sem.run_bind, run_str hs he hd hr, Sem.run_pure, Result.andThen_ok]
theorem wpList_str (hgd : o.guard = none) (src dst : TypeId) (x : Operand) (ho : o.op = .convert src dst x) (e : TypeId) (hs : P.underlying src = some (.slice e)) (he : P.underlying e = some (.int .u8)) (hd : P.underlying dst = some .string)
    (A : Option Addr) (n c : Nat) (hx : a.eval x = .slice A n c) (l : List UInt8) (hr : Rd w A n (u8s l)) (h : wpList P ops Q rest (a.put o.dst (.string (bytesOf l))) w) : wpList P ops Q (o :: rest) a w :=
  wpList_of hgd fun _ hK => wp_str src dst x ho e hs he hd A n c hx l hr (hK _ _ h)
end
theorem ctl_eq (c : UInt8) : (c < 32 || c > 126) = (decide ((c.toNat : Int) < 32) || decide (126 < (c.toNat : Int))) := by
  rw [Bool.eq_iff_iff]; simp [UInt8.lt_iff_toNat_lt]; omega
theorem ctl_yes {c : UInt8} (h : (c < 32 || c > 126) = true) : decide ((c.toNat : Int) < 32) = true ∨ (decide ((c.toNat : Int) < 32) = false ∧ decide ((126 : Int) < (c.toNat : Int)) = true) := by
  rw [ctl_eq] at h
  revert h
  cases decide ((c.toNat : Int) < 32) <;> cases decide ((126 : Int) < (c.toNat : Int)) <;> simp
theorem ctl_no {c : UInt8} (h : (c < 32 || c > 126) = false) : decide ((c.toNat : Int) < 32) = false ∧ decide ((126 : Int) < (c.toNat : Int)) = false := by
  rw [ctl_eq] at h
  revert h
  cases decide ((c.toNat : Int) < 32) <;> cases decide ((126 : Int) < (c.toNat : Int)) <;> simp
theorem add_int (B g : Nat) (s : ByteArray) (i j : Nat) (ts : List Lx.Tok) (k : Nat) (t : List UInt8) (m : Nat) (w : World) {J : Int} (hJ : (.int .i64 J : Value) = .int .i64 (j : Int)) (h : St w B g s i ts) (hn : ts.length ≤ 100000) :
    Calls Tryz.prog 80 #[.pointer (some ⟨g, 0, none⟩), .int .i64 k, .string (bytesOf t), .int .i64 m, .int .i64 J] w fun e w' =>
      e = .returned (.tuple #[]) ∧ St w' B g s j (ts ++ [⟨k, t, m, i⟩]) ∧ Below B w w' := by
  rw [hJ]
  exact add_any B g s i j ts k t m w h hn
def TextPost (B g : Nat) (s : ByteArray) (i : Nat) (ts : List Lx.Tok) (w : World) (R : Sum (List UInt8) (List UInt8 × List UInt8)) (e : Ending) (w' : World) : Prop :=
  match R with
  | .inl x => e = .returned (.int .i64 ((s.size - x.length : Nat) : Int)) ∧ Below B w w'
  | .inr (b, x) => e = .returned (.int .i64 (-1)) ∧ St w' B g s (s.size - x.length) (ts ++ [⟨4, b, 0, i⟩]) ∧ Below B w w'
theorem St.lt {w : World} {B g : Nat} {s : ByteArray} {i : Nat} {ts : List Lx.Tok} (h : St w B g s i ts) : g < w.heap.size := by
  obtain ⟨⟨A, c, h1, h2⟩, hle⟩ := h
  exact h1.lt
theorem eU8b : ElemIs Tryz.prog 5 1 1 := ElemIs.of (z := .int .u8 0) (by kernel_rfl) rfl (by omega)
theorem text_quote {l : List UInt8} {m : Nat} {acc : List UInt8} (h : l[m]? = some 34) : Lx.text (l.drop m).length.succ (l.drop m) acc = .inr (acc, l.drop (m + 1)) := by
  rw [drop_cons h]; rfl
theorem text_esc_bad {l : List UInt8} {m : Nat} {acc : List UInt8} (h : l[m]? = some 92) (he : escN (l.drop (m + 1)) = 0) : Lx.text (l.drop m).length.succ (l.drop m) acc = .inl (l.drop m) := by
  have : Lx.esc (l.drop (m + 1)) = none := by
    unfold escN at he
    cases hq : Lx.esc (l.drop (m + 1)) with
    | none => rfl
    | some p =>
      exfalso
      obtain ⟨x, k⟩ := p
      rw [hq] at he
      simp only [] at he
      have := esc_two hq
      omega
  rw [drop_cons h]
  unfold Lx.text
  simp [this]
theorem text_esc {l : List UInt8} {m : Nat} {acc : List UInt8} (h : l[m]? = some 92) (he : escN (l.drop (m + 1)) ≠ 0) : Lx.text (l.drop m).length.succ (l.drop m) acc = Lx.text (l.drop (m + escN (l.drop (m + 1)))).length.succ (l.drop (m + escN (l.drop (m + 1)))) (acc ++ [escB (l.drop (m + 1))]) := by
  cases hq : Lx.esc (l.drop (m + 1)) with
  | none => exact absurd (by unfold escN; rw [hq]) he
  | some p =>
    obtain ⟨x, k⟩ := p
    have h1 : escN (l.drop (m + 1)) = k := by unfold escN; rw [hq]
    have h2 : escB (l.drop (m + 1)) = x := by unfold escB; rw [hq]
    have hk := esc_two hq
    rw [h1, h2]
    have hm : m < l.length := (List.getElem?_eq_some_iff.1 h).1
    conv => lhs; rw [drop_cons h]; unfold Lx.text
    simp only [hq]
    rw [show ((92 : UInt8) == 34) = false from rfl, show ((92 : UInt8) == 92) = true from rfl]
    simp only [Bool.false_eq_true, if_false, if_true]
    rw [← drop_cons h, List.drop_drop]
    exact text_fuel _ _ _ (by simp; omega) _ (by omega)
theorem text_bad {l : List UInt8} {m : Nat} {acc : List UInt8} {c : UInt8} (h : l[m]? = some c) (h1 : c ≠ 34) (h2 : c ≠ 92) (h3 : (c < 32 || c > 126) = true) : Lx.text (l.drop m).length.succ (l.drop m) acc = .inl (l.drop m) := by
  have e1 : (c == 34) = false := by simpa using h1
  have e2 : (c == 92) = false := by simpa using h2
  rw [drop_cons h]
  unfold Lx.text
  simp only [e1, e2, h3]
  rfl
theorem text_plain {l : List UInt8} {m : Nat} {acc : List UInt8} {c : UInt8} (h : l[m]? = some c) (h1 : c ≠ 34) (h2 : c ≠ 92) (h3 : (c < 32 || c > 126) = false) : Lx.text (l.drop m).length.succ (l.drop m) acc = Lx.text (l.drop (m + 1)).length.succ (l.drop (m + 1)) (acc ++ [c]) := by
  have e1 : (c == 34) = false := by simpa using h1
  have e2 : (c == 92) = false := by simpa using h2
  conv => lhs; rw [drop_cons h]; unfold Lx.text
  simp only [e1, e2, h3]
  rfl
theorem text_end {l : List UInt8} {m : Nat} {acc : List UInt8} (h : l.length ≤ m) : Lx.text (l.drop m).length.succ (l.drop m) acc = .inl [] := by
  rw [List.drop_eq_nil_of_le h]; rfl
set_option maxHeartbeats 4000000 in
theorem text_any (B g : Nat) (s : ByteArray) (i : Nat) (ts : List Lx.Tok) (w : World) (h : St w B g s i ts) (hn : ts.length ≤ 100000) (hi : i < s.size) (hs : s.size ≤ 8000) (R : Sum (List UInt8) (List UInt8 × List UInt8))
    (hR : R = Lx.text (s.data.toList.drop (i + 1)).length.succ (s.data.toList.drop (i + 1)) []) :
    Calls Tryz.prog 109 #[.pointer (some ⟨g, 0, none⟩)] w (TextPost B g s i ts w R) := by
  have HR := Lib.hid hR
  clear hR
  have c1 := h.c1
  go_enter Tryz.func109, Tryz.ntmps109
  go_wp2_with fail
  go_loopg [3, 4] (s.size - (i + 1)) (fun k o q wr => ∃ (m : Nat) (acc : List UInt8) (A : Option Addr) (c : Nat), i + 1 ≤ m ∧ m ≤ s.size ∧ k = s.size - m ∧ q = .int .i64 m ∧ o = .slice A acc.length c ∧ acc.length ≤ m ∧
    wr.ownsRow w.heap.size 5 1 (.slice A acc.length c) acc.length (u8s acc) ∧ Below w.heap.size w wr ∧ Hid (R = Lx.text (s.data.toList.drop m).length.succ (s.data.toList.drop m) acc))
  case atStart => exact ⟨i + 1, [], none, 0, Nat.le_refl _, by omega, rfl, by go_num, rfl, by simp, World.ownsRow_nil _ _ _ _, Below.refl _ _, HR.out⟩
  case round =>
    obtain ⟨m, acc, A, c, him, hm, hgk, rfl, rfl, hacc, hown, hBr, HT⟩ := hrel
    have HGK := Lib.hid hgk
    clear hgk
    have hst : St wr B g s i ts := h.below hBr (fun k _ hk => hk)
    have hBB : Below B w wr := hBr.mono (Nat.le_trans h.le (Nat.le_of_lt h.lt))
    have c0 := hst.c0
    by_cases hlt : m < s.size
    · have hx := str_at s m hlt
      have i0 : (0 : Int) ≤ (m : Int) := by omega
      have i1 : (m : Int) < (s.size : Int) := by omega
      generalize hxx : s[m] = x at hx
      have HX := Lib.hid hx
      clear hx
      by_cases h34 : x = 34
      · have e1 : ((x.toNat : Int) == 34) = true := by rw [h34]; rfl
        have HTQ := Lib.hid (HT.out.trans (text_quote (by have := HX.out; rw [h34] at this; exact this)))
        clear h34
        go_wp2_with (first
          | (refine wpList_str rfl 83 9 (.tmp 36) rfl 5 Tryz.underlying83 Tryz.underlying5 Tryz.underlying9 A acc.length c (by rfl) acc (Rd.of_own hown) ?_)
          | (go_at_call 80; refine (add_int B g s i (m + 1) ts 4 acc 0 _ (by go_num) hst hn).mono ?_; rintro e w2 ⟨rfl, h2, hB2⟩))
        refine bodyPost_ret (results_tmp rfl _ _ _) rfl ?_
        unfold TextPost
        rw [HTQ.out]
        refine ⟨rfl, ?_, hBB.trans hB2⟩
        rw [show s.size - (s.data.toList.drop (m + 1)).length = m + 1 from by simp; omega]
        exact h2
      · have e1 : ((x.toNat : Int) == 34) = false := byte_ne (k := 34) h34
        have H34 := Lib.hid h34
        clear h34
        have hdm : s.size - (s.data.toList.drop m).length = m := by simp; omega
        have HDM := Lib.hid hdm
        clear hdm
        by_cases h92 : x = 92
        · have e2 : ((x.toNat : Int) == 92) = true := by rw [h92]; rfl
          have HX92 : Hid (s.data.toList[m]? = some 92) := by have := HX.out; rw [h92] at this; exact this
          clear h92
          have hesc := escape_any g s m (s.data.toList.drop (m + 1)) wr c0 hlt hs rfl
          have HTB := fun he => Lib.hid (HT.out.trans (text_esc_bad HX92.out he))
          have HTO := fun he => Lib.hid (HT.out.trans (text_esc HX92.out he))
          have hel : escN (s.data.toList.drop (m + 1)) ≤ (s.data.toList.drop (m + 1)).length + 1 ∧ escN (s.data.toList.drop (m + 1)) ≤ 8001 := by
            cases hq : Lx.esc (s.data.toList.drop (m + 1)) with
            | none => unfold escN; rw [hq]; simp
            | some p =>
              obtain ⟨a, b⟩ := p
              have := esc_two hq
              have hl : (s.data.toList.drop (m + 1)).length ≤ 8000 := by simp; omega
              unfold escN
              rw [hq]
              simp only []
              omega
          have hel2 : m + escN (s.data.toList.drop (m + 1)) ≤ s.size := by
            have := hel.1
            simp at this
            omega
          clear hel
          generalize hEB : escB (s.data.toList.drop (m + 1)) = EB at *
          generalize hEN : escN (s.data.toList.drop (m + 1)) = EN at *
          have HESC := Lib.hid hesc
          clear hesc hEB hEN
          by_cases hz : EN = 0
          · subst hz
            have HTQ := HTB rfl
            clear HTB HTO
            go_wp2_with (go_at_call 128; refine HESC.out.mono ?_; rintro e w2 ⟨rfl, q2, rfl⟩)
            refine bodyPost_ret (results_tmp rfl _ _ _) rfl ?_
            unfold TextPost
            rw [HTQ.out]
            simp only []
            rw [HDM.out]
            exact ⟨rfl, below_drewN hBB _⟩
          · have HTQ := HTO hz
            have e3 : ((EN : Int) == 0) = false := by simpa using hz
            have hpos : 0 < EN := by omega
            clear HTB HTO hz
            go_wp2_with (first
              | (go_at_call 128; refine HESC.out.mono ?_; rintro e w2 ⟨rfl, q2, rfl⟩)
              | (at_builtin; refine wpList_app rfl (.tmp 53) (.tmp 55) _ rfl w.heap.size 5 1 1 Tryz.underlying83 eU8b (.slice A acc.length c) acc.length (u8s acc) (by rfl) (by exact hown.alloc _) (some ⟨wr.heap.size, 0, none⟩) 1 1 [.int .u8 EB.toNat] (by rfl) (by exact RdS.new wr _ [.int .u8 EB.toNat] 1 rfl) (by simp [Value.oneCell']) (by omega) (by omega) (by exact Nat.le_trans hBr.size (by simp)) ?_))
            intro A2 c2 w3 hown2 hc2 hg2 hat2
            have hB3 : Below w.heap.size w w3 := (below_drewN (hBr.alloc hBr.size _) q2).grown hg2 (Nat.le_trans hBr.size (by simp)) (fun k hk => (hown.lt k hk).1)
            have hown3 : w3.ownsRow w.heap.size 5 1 (.slice A2 (acc ++ [EB]).length c2) (acc ++ [EB]).length (u8s (acc ++ [EB])) := by
              rw [u8s_append, List.length_append]; exact hown2
            clear hg2 hat2 hown2 hown hBr hst hBB c0
            go_wp2_with fail
            go_roundg (s.size - (m + EN))
            case measure => have := HGK.out; omega
            case rel => exact ⟨m + EN, acc ++ [EB], A2, c2, by omega, by omega, rfl, by go_num, by rw [List.length_append]; rfl, by rw [List.length_append]; simp; omega, hown3, hB3, HTQ.out⟩
        · have e2 : ((x.toNat : Int) == 92) = false := byte_ne (k := 92) h92
          have H92 := Lib.hid h92
          clear h92
          by_cases hct : (x < 32 || x > 126) = true
          · have HTQ := Lib.hid (HT.out.trans (text_bad HX.out H34.out H92.out hct))
            have hcase := ctl_yes hct
            clear hct
            rcases hcase with a1 | ⟨a1, a2⟩
            all_goals
              go_wp2_with fail
              refine bodyPost_ret (results_tmp rfl _ _ _) rfl ?_
              unfold TextPost
              rw [HTQ.out]
              simp only []
              rw [HDM.out]
              exact ⟨rfl, hBB⟩
          · have hct' : (x < 32 || x > 126) = false := by simpa using hct
            have HTQ := Lib.hid (HT.out.trans (text_plain HX.out H34.out H92.out hct'))
            obtain ⟨a1, a2⟩ := ctl_no hct'
            clear hct hct'
            go_wp2_with (at_builtin; refine wpList_app rfl (.tmp 26) (.tmp 28) _ rfl w.heap.size 5 1 1 Tryz.underlying83 eU8b (.slice A acc.length c) acc.length (u8s acc) (by rfl) (by exact hown.alloc _) (some ⟨wr.heap.size, 0, none⟩) 1 1 [.int .u8 x.toNat] (by rfl) (by exact RdS.new wr _ [.int .u8 x.toNat] 1 rfl) (by simp [Value.oneCell']) (by omega) (by omega) (by exact Nat.le_trans hBr.size (by simp)) ?_)
            intro A2 c2 w3 hown2 hc2 hg2 hat2
            have hB3 : Below w.heap.size w w3 := (hBr.alloc hBr.size _).grown hg2 (Nat.le_trans hBr.size (by simp)) (fun k hk => (hown.lt k hk).1)
            have hown3 : w3.ownsRow w.heap.size 5 1 (.slice A2 (acc ++ [x]).length c2) (acc ++ [x]).length (u8s (acc ++ [x])) := by
              rw [u8s_append, List.length_append]; exact hown2
            clear hg2 hat2 hown2 hown hBr hst hBB c0
            go_wp2_with fail
            go_roundg (s.size - (m + 1))
            case measure => have := HGK.out; omega
            case rel => exact ⟨m + 1, acc ++ [x], A2, c2, by omega, by omega, rfl, by go_num, by rw [List.length_append]; rfl, by rw [List.length_append]; simp; omega, hown3, hB3, HTQ.out⟩
    · have hge : s.size ≤ m := by omega
      have HTQ := Lib.hid (HT.out.trans (text_end (by simpa using hge)))
      go_wp2_with fail
      refine bodyPost_ret (results_tmp rfl _ _ _) rfl ?_
      unfold TextPost
      rw [HTQ.out]
      exact ⟨rfl, hBB⟩
end Go.Proofs.YtafjkbbiaopemaaGreatDoor
namespace Go.Proofs.YtafjkbbiaopemaaGreatDoor
open Go.RowKit
theorem letter_s (x : UInt8) (w : World) : Calls Tryz.prog 105 #[.int .u8 x.toNat] w fun e w' => e = .returned (.bool (Lx.letter x)) ∧ w = w' := (letter_any x w).mono fun _ _ ⟨a, b⟩ => ⟨a, b.symm⟩
theorem digit_s (x : UInt8) (w : World) : Calls Tryz.prog 107 #[.int .u8 x.toNat] w fun e w' => e = .returned (.bool (Lx.digit x)) ∧ w = w' := (digit_any x w).mono fun _ _ ⟨a, b⟩ => ⟨a, b.symm⟩
theorem ib_s (s : ByteArray) (x : UInt8) (w : World) : Calls Tryz.prog 104 #[.string s, .int .u8 x.toNat] w fun e w' => e = .returned (.int .i64 (Lib.indexByte s.data.toList x)) ∧ w = w' := (indexByte_any s x w).mono fun _ _ ⟨a, b⟩ => ⟨a, b.symm⟩
def TokPost (B g : Nat) (s : ByteArray) (i : Nat) (ts : List Lx.Tok) (w : World) (R : Sum (List UInt8) (Nat × List UInt8 × Nat × List UInt8)) (e : Ending) (w' : World) : Prop :=
  match R with
  | .inl x => e = .returned (.int .i64 ((s.size - x.length : Nat) : Int)) ∧ Below B w w'
  | .inr (k, t, m, x) => e = .returned (.int .i64 (-1)) ∧ St w' B g s (s.size - x.length) (ts ++ [⟨k, t, m, i⟩]) ∧ Below B w w'
theorem ib_mark (x : UInt8) : decide (0 ≤ Lib.indexByte [59, 44, 123, 125, 40, 41, 61, 62, 64, 33, 43, 45, 42] x) = Lx.mark x := by
  rw [ib_nonneg]; rfl
theorem sz_drop (s : ByteArray) (i : Nat) (h : i ≤ s.size) : s.size - (s.data.toList.drop i).length = i := by simp; omega
theorem tok_letter {l : List UInt8} {i : Nat} {x : UInt8} (hx : l[i]? = some x) (hl : Lx.letter x = true) :
    Lx.token (l.drop i) = if ((l.drop i).takeWhile Lx.alnum).length > 16 then .inl (l.drop i) else .inr (if Lx.reserved ((l.drop i).takeWhile Lx.alnum) then 2 else 1, (l.drop i).takeWhile Lx.alnum, 0, l.drop (i + ((l.drop i).takeWhile Lx.alnum).length)) := by
  rw [← List.drop_drop, drop_cons hx]
  simp only [Lx.token, hl, if_true]
theorem tok_digit {l : List UInt8} {i : Nat} {x : UInt8} (hx : l[i]? = some x) (hl : Lx.letter x = false) (hd : Lx.digit x = true) :
    Lx.token (l.drop i) = if ((l.drop i).takeWhile Lx.digit).length > 9 || (((l.drop i).takeWhile Lx.digit).length > 1 && x == 48) then .inl (l.drop i)
      else if (l.drop (i + ((l.drop i).takeWhile Lx.digit).length)).head?.any Lx.letter then .inl (l.drop (i + ((l.drop i).takeWhile Lx.digit).length))
      else .inr (3, (l.drop i).takeWhile Lx.digit, Lx.numOf ((l.drop i).takeWhile Lx.digit), l.drop (i + ((l.drop i).takeWhile Lx.digit).length)) := by
  rw [← List.drop_drop, drop_cons hx]
  simp only [Lx.token, hl, hd, if_true, Bool.false_eq_true, if_false]
theorem tok_text {l : List UInt8} {i : Nat} {x : UInt8} (hx : l[i]? = some x) (hq : x = 34) :
    Lx.token (l.drop i) = match Lx.text (l.drop (i + 1)).length.succ (l.drop (i + 1)) [] with | .inl y => .inl y | .inr (b, y) => .inr (4, b, 0, y) := by
  subst hq
  rw [drop_cons hx]
  rfl
theorem tok_mark {l : List UInt8} {i : Nat} {x : UInt8} (hx : l[i]? = some x) (hl : Lx.letter x = false) (hd : Lx.digit x = false) (hq : x ≠ 34) (hm : Lx.mark x = true) :
    Lx.token (l.drop i) = .inr (5, [x], 0, l.drop (i + 1)) := by
  have e : (x == 34) = false := by simpa using hq
  rw [drop_cons hx]
  simp only [Lx.token, hl, hd, e, hm, if_true, Bool.false_eq_true, if_false]
theorem tok_none {l : List UInt8} {i : Nat} {x : UInt8} (hx : l[i]? = some x) (hl : Lx.letter x = false) (hd : Lx.digit x = false) (hq : x ≠ 34) (hm : Lx.mark x = false) :
    Lx.token (l.drop i) = .inl (l.drop i) := by
  have e : (x == 34) = false := by simpa using hq
  rw [drop_cons hx]
  simp only [Lx.token, hl, hd, e, hm, Bool.false_eq_true, if_false]
theorem head_drop {l : List UInt8} {i : Nat} : (l.drop i).head? = l[i]? := by
  rw [List.head?_drop]
set_option maxRecDepth 100000 in
set_option maxHeartbeats 4000000 in
theorem token_any (B g : Nat) (s : ByteArray) (i : Nat) (ts : List Lx.Tok) (w : World) (h : St w B g s i ts) (hn : ts.length ≤ 100000) (hi : i < s.size) (hs : s.size ≤ 8000) (R : Sum (List UInt8) (Nat × List UInt8 × Nat × List UInt8))
    (hR : R = Lx.token (s.data.toList.drop i)) :
    Calls Tryz.prog 79 #[.pointer (some ⟨g, 0, none⟩)] w (TokPost B g s i ts w R) := by
  have HR := Lib.hid hR
  clear hR
  have c0 := h.c0
  have c1 := h.c1
  have hx := str_at s i hi
  have i0 : (0 : Int) ≤ (i : Int) := by omega
  have i1 : (i : Int) < (s.size : Int) := by omega
  generalize hxx : s[i] = x at hx
  have HX := Lib.hid hx
  have HD := Lib.hid (sz_drop s i (by omega))
  clear hx
  by_cases hl : Lx.letter x = true
  · have hT := HR.out.trans (tok_letter HX.out hl)
    by_cases hb : ((s.data.toList.drop i).takeWhile Lx.alnum).length > 16
    · rw [if_pos hb] at hT
      have HT := Lib.hid hT
      clear hT
      go_enter Tryz.func79, Tryz.ntmps79
      go_wp2_with fail
      go_quiet (fail)
      have h1 := h.drewN nq
      have hB1 : Below B w (w.drewN nq) := below_drewN (Below.refl _ _) _
      clear c0 c1 h
      generalize w.drewN nq = w1 at *
      go_wp2_with (first
        | (go_at_call 105; refine (letter_s _ _).mono ?_; rintro e w' ⟨rfl, rfl⟩)
        | (go_at_call 107; refine (digit_s _ _).mono ?_; rintro e w' ⟨rfl, rfl⟩)
        | (go_at_call 104; refine (ib_s _ _ _).mono ?_; rintro e w' ⟨rfl, rfl⟩)
        | (go_at_call 106; refine (name_bad B g s i _ _ ts _ h1 (by omega) hs rfl rfl hb).mono ?_; rintro e w2 ⟨rfl, rfl⟩))
      refine bodyPost_ret (results_tmp rfl _ _ _) rfl ?_
      unfold TokPost
      rw [HT.out]
      simp only []
      rw [HD.out]
      exact ⟨rfl, hB1⟩
    · rw [if_neg hb] at hT
      have HT := Lib.hid hT
      have HE := Lib.hid (sz_drop s (i + ((s.data.toList.drop i).takeWhile Lx.alnum).length) (by have := run_le (p := Lx.alnum) (l := s.data.toList) (i := i) (by simp; omega); simpa using this))
      clear hT
      go_enter Tryz.func79, Tryz.ntmps79
      go_wp2_with fail
      go_quiet (fail)
      have h1 := h.drewN nq
      have hB1 : Below B w (w.drewN nq) := below_drewN (Below.refl _ _) _
      clear c0 c1 h
      generalize w.drewN nq = w1 at *
      go_wp2_with (first
        | (go_at_call 105; refine (letter_s _ _).mono ?_; rintro e w' ⟨rfl, rfl⟩)
        | (go_at_call 107; refine (digit_s _ _).mono ?_; rintro e w' ⟨rfl, rfl⟩)
        | (go_at_call 104; refine (ib_s _ _ _).mono ?_; rintro e w' ⟨rfl, rfl⟩)
        | (go_at_call 106; refine (name_ok B g s i _ _ ts _ h1 hn (by omega) hs rfl rfl hb).mono ?_; rintro e w2 ⟨rfl, h2, hB2⟩))
      refine bodyPost_ret (results_tmp rfl _ _ _) rfl ?_
      unfold TokPost
      rw [HT.out]
      simp only []
      rw [HE.out]
      exact ⟨rfl, h2, hB1.trans hB2⟩
  · have hl' : Lx.letter x = false := by simpa using hl
    clear hl
    by_cases hd : Lx.digit x = true
    · have hT := HR.out.trans (tok_digit HX.out hl' hd)
      have hEl : i + ((s.data.toList.drop i).takeWhile Lx.digit).length ≤ s.size := by have := run_le (p := Lx.digit) (l := s.data.toList) (i := i) (by simp; omega); simpa using this
      have HE := Lib.hid (sz_drop s (i + ((s.data.toList.drop i).takeWhile Lx.digit).length) hEl)
      by_cases hb : ((s.data.toList.drop i).takeWhile Lx.digit).length > 9 ∨ (((s.data.toList.drop i).takeWhile Lx.digit).length > 1 ∧ x = 48)
      · rw [if_pos (by simpa using hb)] at hT
        have HT := Lib.hid hT
        clear hT hEl
        go_enter Tryz.func79, Tryz.ntmps79
        go_wp2_with fail
        go_quiet (fail)
        have h1 := h.drewN nq
        have hB1 : Below B w (w.drewN nq) := below_drewN (Below.refl _ _) _
        clear c0 c1 h
        generalize w.drewN nq = w1 at *
        go_wp2_with (first
          | (go_at_call 105; refine (letter_s _ _).mono ?_; rintro e w' ⟨rfl, rfl⟩)
          | (go_at_call 107; refine (digit_s _ _).mono ?_; rintro e w' ⟨rfl, rfl⟩)
          | (go_at_call 104; refine (ib_s _ _ _).mono ?_; rintro e w' ⟨rfl, rfl⟩)
          | (go_at_call 108; refine (number_bad B g s i _ _ ts _ h1 hi hs rfl rfl x HX.out hd hb).mono ?_; rintro e w2 ⟨rfl, q2, rfl⟩))
        refine bodyPost_ret (results_tmp rfl _ _ _) rfl ?_
        unfold TokPost
        rw [HT.out]
        simp only []
        rw [HD.out]
        exact ⟨rfl, below_drewN hB1 _⟩
      · rw [if_neg (by simpa using hb), head_drop] at hT
        cases hy : s.data.toList[i + ((s.data.toList.drop i).takeWhile Lx.digit).length]? with
        | none =>
          rw [hy] at hT
          have HT : Hid (R = .inr (3, (s.data.toList.drop i).takeWhile Lx.digit, Lx.numOf ((s.data.toList.drop i).takeWhile Lx.digit), s.data.toList.drop (i + ((s.data.toList.drop i).takeWhile Lx.digit).length))) := by show R = _; simpa using hT
          have hyy : ∀ y, s.data.toList[i + ((s.data.toList.drop i).takeWhile Lx.digit).length]? = some y → Lx.letter y = false := fun y hh => by rw [hy] at hh; cases hh
          have HYY := Lib.hid hyy
          clear hT hEl hy hyy
          go_enter Tryz.func79, Tryz.ntmps79
          go_wp2_with fail
          go_quiet (fail)
          have h1 := h.drewN nq
          have hB1 : Below B w (w.drewN nq) := below_drewN (Below.refl _ _) _
          clear c0 c1 h
          generalize w.drewN nq = w1 at *
          go_wp2_with (first
            | (go_at_call 105; refine (letter_s _ _).mono ?_; rintro e w' ⟨rfl, rfl⟩)
            | (go_at_call 107; refine (digit_s _ _).mono ?_; rintro e w' ⟨rfl, rfl⟩)
            | (go_at_call 104; refine (ib_s _ _ _).mono ?_; rintro e w' ⟨rfl, rfl⟩)
            | (go_at_call 108; refine (number_ok B g s i _ _ ts _ h1 hn hi hs rfl rfl x HX.out hd hb HYY.out).mono ?_; rintro e w2 ⟨rfl, h2, hB2⟩))
          refine bodyPost_ret (results_tmp rfl _ _ _) rfl ?_
          unfold TokPost
          rw [HT.out]
          simp only []
          rw [HE.out]
          exact ⟨rfl, h2, hB1.trans hB2⟩
        | some y =>
          rw [hy] at hT
          have HY := Lib.hid hy
          by_cases hly : Lx.letter y = true
          · have HT : Hid (R = .inl (s.data.toList.drop (i + ((s.data.toList.drop i).takeWhile Lx.digit).length))) := by show R = _; simpa [hly] using hT
            clear hT hEl hy
            go_enter Tryz.func79, Tryz.ntmps79
            go_wp2_with fail
            go_quiet (fail)
            have h1 := h.drewN nq
            have hB1 : Below B w (w.drewN nq) := below_drewN (Below.refl _ _) _
            clear c0 c1 h
            generalize w.drewN nq = w1 at *
            go_wp2_with (first
              | (go_at_call 105; refine (letter_s _ _).mono ?_; rintro e w' ⟨rfl, rfl⟩)
              | (go_at_call 107; refine (digit_s _ _).mono ?_; rintro e w' ⟨rfl, rfl⟩)
              | (go_at_call 104; refine (ib_s _ _ _).mono ?_; rintro e w' ⟨rfl, rfl⟩)
              | (go_at_call 108; refine (number_mid B g s i _ _ ts _ h1 hi hs rfl rfl x HX.out hd hb y HY.out hly).mono ?_; rintro e w2 ⟨rfl, q2, rfl⟩))
            refine bodyPost_ret (results_tmp rfl _ _ _) rfl ?_
            unfold TokPost
            rw [HT.out]
            simp only []
            rw [HE.out]
            exact ⟨rfl, below_drewN hB1 _⟩
          · have hly' : Lx.letter y = false := by simpa using hly
            have HT : Hid (R = .inr (3, (s.data.toList.drop i).takeWhile Lx.digit, Lx.numOf ((s.data.toList.drop i).takeWhile Lx.digit), s.data.toList.drop (i + ((s.data.toList.drop i).takeWhile Lx.digit).length))) := by show R = _; simpa [hly'] using hT
            have hyy : ∀ y, s.data.toList[i + ((s.data.toList.drop i).takeWhile Lx.digit).length]? = some y → Lx.letter y = false := fun y hh => by rw [hy] at hh; injection hh with hh; rw [← hh]; exact hly'
            have HYY := Lib.hid hyy
            clear hT hEl hy hyy hly hly'
            go_enter Tryz.func79, Tryz.ntmps79
            go_wp2_with fail
            go_quiet (fail)
            have h1 := h.drewN nq
            have hB1 : Below B w (w.drewN nq) := below_drewN (Below.refl _ _) _
            clear c0 c1 h
            generalize w.drewN nq = w1 at *
            go_wp2_with (first
              | (go_at_call 105; refine (letter_s _ _).mono ?_; rintro e w' ⟨rfl, rfl⟩)
              | (go_at_call 107; refine (digit_s _ _).mono ?_; rintro e w' ⟨rfl, rfl⟩)
              | (go_at_call 104; refine (ib_s _ _ _).mono ?_; rintro e w' ⟨rfl, rfl⟩)
              | (go_at_call 108; refine (number_ok B g s i _ _ ts _ h1 hn hi hs rfl rfl x HX.out hd hb HYY.out).mono ?_; rintro e w2 ⟨rfl, h2, hB2⟩))
            refine bodyPost_ret (results_tmp rfl _ _ _) rfl ?_
            unfold TokPost
            rw [HT.out]
            simp only []
            rw [HE.out]
            exact ⟨rfl, h2, hB1.trans hB2⟩
    · have hd' : Lx.digit x = false := by simpa using hd
      clear hd
      by_cases h34 : x = 34
      · have hT := HR.out.trans (tok_text HX.out h34)
        have e1 : ((x.toNat : Int) == 34) = true := by rw [h34]; rfl
        clear h34
        cases hq : Lx.text (s.data.toList.drop (i + 1)).length.succ (s.data.toList.drop (i + 1)) [] with
        | inl y =>
          rw [hq] at hT
          have HT := Lib.hid hT
          have HQ := Lib.hid hq
          clear hT hq
          go_enter Tryz.func79, Tryz.ntmps79
          go_wp2_with fail
          go_quiet (fail)
          have h1 := h.drewN nq
          have hB1 : Below B w (w.drewN nq) := below_drewN (Below.refl _ _) _
          clear c0 c1 h
          generalize w.drewN nq = w1 at *
          go_wp2_with (first
            | (go_at_call 105; refine (letter_s _ _).mono ?_; rintro e w' ⟨rfl, rfl⟩)
            | (go_at_call 107; refine (digit_s _ _).mono ?_; rintro e w' ⟨rfl, rfl⟩)
            | (go_at_call 104; refine (ib_s _ _ _).mono ?_; rintro e w' ⟨rfl, rfl⟩)
            | (go_at_call 109; refine (text_any B g s i ts _ h1 hn hi hs _ HQ.out.symm).mono ?_; rintro e w2 ⟨rfl, hB2⟩))
          refine bodyPost_ret (results_tmp rfl _ _ _) rfl ?_
          unfold TokPost
          rw [HT.out]
          simp only []
          exact ⟨rfl, hB1.trans hB2⟩
        | inr p =>
          obtain ⟨b, y⟩ := p
          rw [hq] at hT
          have HT := Lib.hid hT
          have HQ := Lib.hid hq
          clear hT hq
          go_enter Tryz.func79, Tryz.ntmps79
          go_wp2_with fail
          go_quiet (fail)
          have h1 := h.drewN nq
          have hB1 : Below B w (w.drewN nq) := below_drewN (Below.refl _ _) _
          clear c0 c1 h
          generalize w.drewN nq = w1 at *
          go_wp2_with (first
            | (go_at_call 105; refine (letter_s _ _).mono ?_; rintro e w' ⟨rfl, rfl⟩)
            | (go_at_call 107; refine (digit_s _ _).mono ?_; rintro e w' ⟨rfl, rfl⟩)
            | (go_at_call 104; refine (ib_s _ _ _).mono ?_; rintro e w' ⟨rfl, rfl⟩)
            | (go_at_call 109; refine (text_any B g s i ts _ h1 hn hi hs _ HQ.out.symm).mono ?_; rintro e w2 ⟨rfl, h2, hB2⟩))
          refine bodyPost_ret (results_tmp rfl _ _ _) rfl ?_
          unfold TokPost
          rw [HT.out]
          simp only []
          exact ⟨rfl, h2, hB1.trans hB2⟩
      · have e1 : ((x.toNat : Int) == 34) = false := byte_ne (k := 34) h34
        have hib := ib_mark x
        by_cases hm : Lx.mark x = true
        · have HT := Lib.hid (HR.out.trans (tok_mark HX.out hl' hd' h34 hm))
          have HE := Lib.hid (sz_drop s (i + 1) (by omega))
          rw [hm] at hib
          have hib' : decide (0 ≤ Lib.indexByte [59, 44, 123, 125, 40, 41, 61, 62, 64, 33, 43, 45, 42] x) = true := hib
          have hext : s.extract i (i + 1) = bytesOf [x] := by
            rw [extract_eq, drop_cons HX.out, Nat.add_sub_cancel_left]
            rfl
          clear hib hm h34
          go_enter Tryz.func79, Tryz.ntmps79
          go_wp2_with fail
          go_quiet (fail)
          have h1 := h.drewN nq
          have hB1 : Below B w (w.drewN nq) := below_drewN (Below.refl _ _) _
          clear c0 c1 h
          generalize w.drewN nq = w1 at *
          go_wp2_with (first
            | (go_at_call 105; refine (letter_s _ _).mono ?_; rintro e w' ⟨rfl, rfl⟩)
            | (go_at_call 107; refine (digit_s _ _).mono ?_; rintro e w' ⟨rfl, rfl⟩)
            | (go_at_call 104; refine (ib_s _ _ _).mono ?_; rintro e w' ⟨rfl, rfl⟩))
          have c0 := h1.c0
          have c1 := h1.c1
          have i2 : (i : Int) + 1 ≤ (s.size : Int) := by omega
          have h1d : St w1.drew B g s i ts := h1.drewN 1
          have hB1d : Below B w w1.drew := hB1.drew
          have k0 : (0 : Int) ≤ (i : Int) + 1 := by omega
          have k1 : (i : Int) ≤ (i : Int) + 1 := by omega
          have k2 : ((i : Int) + 1).toNat = i + 1 := by omega
          have k3 : IntKind.i64.wrap ((i : Int) + 1) = (i : Int) + 1 := IntWalk.i64_in _ (by omega)
          go_still_tail 20, (by kernel_rfl)
          go_wp2_with (go_at_call 80; refine (add_int B g s i (i + 1) ts 5 [x] 0 _ (by go_num) h1d hn).mono ?_; rintro e w2 ⟨rfl, h2, hB2⟩)
          clear k0 k1 k2 k3
          refine bodyPost_ret (results_tmp rfl _ _ _) rfl ?_
          unfold TokPost
          rw [HT.out]
          simp only []
          rw [HE.out]
          exact ⟨rfl, h2, hB1d.trans hB2⟩
        · have hm' : Lx.mark x = false := by simpa using hm
          have HT := Lib.hid (HR.out.trans (tok_none HX.out hl' hd' h34 hm'))
          rw [hm'] at hib
          have hib' : decide (0 ≤ Lib.indexByte [59, 44, 123, 125, 40, 41, 61, 62, 64, 33, 43, 45, 42] x) = false := hib
          clear hib hm hm' h34
          go_enter Tryz.func79, Tryz.ntmps79
          go_wp2_with fail
          go_quiet (fail)
          have h1 := h.drewN nq
          have hB1 : Below B w (w.drewN nq) := below_drewN (Below.refl _ _) _
          clear c0 c1 h
          generalize w.drewN nq = w1 at *
          have c0 := h1.c0
          have c1 := h1.c1
          go_wp2_with (first
            | (go_at_call 105; refine (letter_s _ _).mono ?_; rintro e w' ⟨rfl, rfl⟩)
            | (go_at_call 107; refine (digit_s _ _).mono ?_; rintro e w' ⟨rfl, rfl⟩)
            | (go_at_call 104; refine (ib_s _ _ _).mono ?_; rintro e w' ⟨rfl, rfl⟩))
          refine bodyPost_ret (results_tmp rfl _ _ _) rfl ?_
          unfold TokPost
          rw [HT.out]
          simp only []
          rw [HD.out]
          exact ⟨rfl, hB1⟩
end Go.Proofs.YtafjkbbiaopemaaGreatDoor
