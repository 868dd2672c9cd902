/- Part of the proof: Lex6, Lex7. -/
import Derived.Test.YtafjkbbiaopemaaGreatDoorTox06
set_option linter.unusedVariables false
namespace Go.Proofs.YtafjkbbiaopemaaGreatDoor
open Go.RowKit
theorem bytesOf_size (t : List UInt8) : (bytesOf t).size = t.length := by show t.toArray.size = _; simp
theorem numOf_snoc (t : List UInt8) (k : Nat) (x : UInt8) (h : t[k]? = some x) : Lx.numOf (t.take (k + 1)) = 10 * Lx.numOf (t.take k) + (x.toNat - 48) := by
  rw [List.take_add_one, h]; simp [Lx.numOf]
theorem numOf_lt (t : List UInt8) : (∀ c ∈ t, Lx.digit c = true) → Lx.numOf t < 10 ^ t.length := by
  intro h
  have key : ∀ (l : List UInt8) (n : Nat), (∀ c ∈ l, Lx.digit c = true) → l.foldl (fun n c => 10 * n + (c.toNat - 48)) n < (n + 1) * 10 ^ l.length := by
    intro l
    induction l with
    | nil => intro n _; simp
    | cons c l ih =>
      intro n hc
      have h1 := ih (10 * n + (c.toNat - 48)) (fun d hd => hc d (List.mem_cons_of_mem _ hd))
      have h2 := hc c (List.mem_cons_self ..)
      rw [digit_eq] at h2
      simp at h2
      have h3 : (10 * n + (c.toNat - 48) + 1) * 10 ^ l.length ≤ ((n + 1) * 10) * 10 ^ l.length := Nat.mul_le_mul_right _ (by omega)
      rw [List.foldl_cons, List.length_cons, Nat.pow_succ, Nat.mul_comm (10 ^ l.length), ← Nat.mul_assoc]
      omega
  have := key t 0 h
  simpa [Lx.numOf] using this
theorem run_digits {p : UInt8 → Bool} (l : List UInt8) : ∀ c ∈ l.takeWhile p, p c = true := by
  induction l with
  | nil => simp
  | cons a l ih =>
    by_cases h : p a = true
    · simp [h]; exact ih
    · simp [h]
set_option maxHeartbeats 2000000 in
theorem number_bad (B g : Nat) (s : ByteArray) (i E : Nat) (t : List UInt8) (ts : List Lx.Tok) (w : World) (h : St w B g s i ts) (hi : i < s.size) (hs : s.size ≤ 8000)
    (ht : t = (s.data.toList.drop i).takeWhile Lx.digit) (hE : E = i + t.length) (x : UInt8) (hx : s.data.toList[i]? = some x) (hd : Lx.digit x = true) (hbig : t.length > 9 ∨ (t.length > 1 ∧ x = 48)) :
    Calls Tryz.prog 108 #[.pointer (some ⟨g, 0, none⟩)] w fun e w' => e = .returned (.int .i64 i) ∧ ∃ q, w' = w.drewN q := by
  have c0 := h.c0
  have c1 := h.c1
  obtain ⟨hEs, hiE, hEl, hext, hrun⟩ := run_facts false h (by omega) hs ht hE
  have HRUN := Lib.hid hrun
  have HEL := Lib.hid hEl
  have ht0 : t[0]? = some x := by rw [ht, drop_cons hx]; simp [hd]
  have hsz := bytesOf_size t
  have j0 : (0 : Int) ≤ (i : Int) := by omega
  have j1 : (i : Int) ≤ (E : Int) := by omega
  have j2 : (E : Int) ≤ (s.size : Int) := by omega
  have hgl : t.length ≤ 8000 := by omega
  generalize hT : bytesOf t = T at *
  have hxT : ∀ (hh : 0 < T.size), T[0] = x := fun hh => by
    subst hT
    have := str_at (bytesOf t) 0 hh
    rw [bytesOf_toList, ht0] at this
    injection this with this
    exact this.symm
  generalize hL : t.length = L at *
  clear hrun ht hE hEl ht0 hT hx
  rcases Nat.lt_or_ge 9 L with h9 | h9
  · have e1 : decide ((9 : Int) < (T.size : Int)) = true := by rw [hsz]; simp; omega
    go_enter Tryz.func108, Tryz.ntmps108
    go_wp2_with (go_at_call 126; refine HRUN.out.mono ?_; rintro e w' ⟨rfl, rfl⟩)
    go_quiet (fail)
    have c0' : (w.drewN nq).cell? ⟨g, 0, none⟩ = some (.string s) := c0
    have c1' : (w.drewN nq).cell? ⟨g, 1, none⟩ = some (.int .i64 i) := c1
    go_wp2_with fail
    go_ret
    exact ⟨rfl, nq, rfl⟩
  · obtain ⟨h1, rfl⟩ : L > 1 ∧ x = 48 := by
      rcases hbig with hh | hh
      · omega
      · exact hh
    have e1 : decide ((9 : Int) < (T.size : Int)) = false := by rw [hsz]; simp; omega
    have e2 : decide ((1 : Int) < (T.size : Int)) = true := by rw [hsz]; simp; omega
    have hT0 : 0 < T.size := by omega
    have hx0 := hxT hT0
    clear hxT
    go_enter Tryz.func108, Tryz.ntmps108
    go_wp2_with (go_at_call 126; refine HRUN.out.mono ?_; rintro e w' ⟨rfl, rfl⟩)
    go_quiet (fail)
    have c0' : (w.drewN nq).cell? ⟨g, 0, none⟩ = some (.string s) := c0
    have c1' : (w.drewN nq).cell? ⟨g, 1, none⟩ = some (.int .i64 i) := c1
    go_wp2_with fail
    go_ret
    exact ⟨rfl, nq, rfl⟩
set_option maxHeartbeats 2000000 in
theorem number_mid (B g : Nat) (s : ByteArray) (i E : Nat) (t : List UInt8) (ts : List Lx.Tok) (w : World) (h : St w B g s i ts) (hi : i < s.size) (hs : s.size ≤ 8000)
    (ht : t = (s.data.toList.drop i).takeWhile Lx.digit) (hE : E = i + t.length) (x : UInt8) (hx : s.data.toList[i]? = some x) (hd : Lx.digit x = true) (hbig : ¬ (t.length > 9 ∨ (t.length > 1 ∧ x = 48)))
    (y : UInt8) (hy : s.data.toList[E]? = some y) (hl : Lx.letter y = true) :
    Calls Tryz.prog 108 #[.pointer (some ⟨g, 0, none⟩)] w fun e w' => e = .returned (.int .i64 E) ∧ ∃ q, w' = w.drewN q := by
  have c0 := h.c0
  have c1 := h.c1
  obtain ⟨hEs, hiE, hEl, hext, hrun⟩ := run_facts false h (by omega) hs ht hE
  have HRUN := Lib.hid hrun
  have HEL := Lib.hid hEl
  have ht0 : t[0]? = some x := by rw [ht, drop_cons hx]; simp [hd]
  have ht1 : 0 < t.length := (List.getElem?_eq_some_iff.1 ht0).1
  have hsz := bytesOf_size t
  have j0 : (0 : Int) ≤ (i : Int) := by omega
  have j1 : (i : Int) ≤ (E : Int) := by omega
  have j2 : (E : Int) ≤ (s.size : Int) := by omega
  have hgl : t.length ≤ 8000 := by omega
  have hE2 : E < s.size := by have := (List.getElem?_eq_some_iff.1 hy).1; simpa using this
  have hyy : s[E] = y := by
    have := str_at s E hE2
    rw [hy] at this
    injection this with this
    exact this.symm
  have j3 : (E : Int) < (s.size : Int) := by omega
  have j4 : (0 : Int) ≤ (E : Int) := by omega
  generalize hT : bytesOf t = T at *
  have hxT : ∀ (hh : 0 < T.size), T[0] = x := fun hh => by
    subst hT
    have := str_at (bytesOf t) 0 hh
    rw [bytesOf_toList, ht0] at this
    injection this with this
    exact this.symm
  generalize hL : t.length = L at *
  have hT0 : 0 < T.size := by omega
  have hx0 := hxT hT0
  have hc9 : ¬ L > 9 ∧ (L > 1 → x ≠ 48) := ⟨fun hh => hbig (.inl hh), fun hh e => hbig (.inr ⟨hh, e⟩)⟩
  obtain ⟨h9, h48⟩ := hc9
  clear hrun ht hE hEl ht0 hT hx hxT hbig hy
  have e1 : decide ((9 : Int) < (T.size : Int)) = false := by rw [hsz]; simp; omega
  by_cases h1 : L > 1
  · have e2 : decide ((1 : Int) < (T.size : Int)) = true := by rw [hsz]; simp; omega
    have e3 : ((x.toNat : Int) == 48) = false := byte_ne (k := 48) (h48 h1)
    clear h48
    go_enter Tryz.func108, Tryz.ntmps108
    go_wp2_with (go_at_call 126; refine HRUN.out.mono ?_; rintro e w' ⟨rfl, rfl⟩)
    go_quiet (fail)
    have c0' : (w.drewN nq).cell? ⟨g, 0, none⟩ = some (.string s) := c0
    have c1' : (w.drewN nq).cell? ⟨g, 1, none⟩ = some (.int .i64 i) := c1
    go_wp2_with (go_at_call 105; refine (letter_any _ _).mono ?_; rintro e w' ⟨rfl, rfl⟩)
    go_ret
    exact ⟨rfl, nq, rfl⟩
  · have e2 : decide ((1 : Int) < (T.size : Int)) = false := by rw [hsz]; simp; omega
    clear h48
    go_enter Tryz.func108, Tryz.ntmps108
    go_wp2_with (go_at_call 126; refine HRUN.out.mono ?_; rintro e w' ⟨rfl, rfl⟩)
    go_quiet (fail)
    have c0' : (w.drewN nq).cell? ⟨g, 0, none⟩ = some (.string s) := c0
    have c1' : (w.drewN nq).cell? ⟨g, 1, none⟩ = some (.int .i64 i) := c1
    go_wp2_with (go_at_call 105; refine (letter_any _ _).mono ?_; rintro e w' ⟨rfl, rfl⟩)
    go_ret
    exact ⟨rfl, nq, rfl⟩
set_option maxHeartbeats 4000000 in
theorem number_ok (B g : Nat) (s : ByteArray) (i E : Nat) (t : List UInt8) (ts : List Lx.Tok) (w : World) (h : St w B g s i ts) (hn : ts.length ≤ 100000) (hi : i < s.size) (hs : s.size ≤ 8000)
    (ht : t = (s.data.toList.drop i).takeWhile Lx.digit) (hE : E = i + t.length) (x : UInt8) (hx : s.data.toList[i]? = some x) (hd : Lx.digit x = true) (hbig : ¬ (t.length > 9 ∨ (t.length > 1 ∧ x = 48)))
    (hy : ∀ y, s.data.toList[E]? = some y → Lx.letter y = false) :
    Calls Tryz.prog 108 #[.pointer (some ⟨g, 0, none⟩)] w fun e w' => e = .returned (.int .i64 (-1)) ∧ St w' B g s E (ts ++ [⟨3, t, Lx.numOf t, i⟩]) ∧ Below B w w' := by
  have c0 := h.c0
  have c1 := h.c1
  obtain ⟨hEs, hiE, hEl, hext, hrun⟩ := run_facts false h (by omega) hs ht hE
  have HRUN := Lib.hid hrun
  have HEL := Lib.hid hEl
  have ht0 : t[0]? = some x := by rw [ht, drop_cons hx]; simp [hd]
  have ht1 : 0 < t.length := (List.getElem?_eq_some_iff.1 ht0).1
  have hsz := bytesOf_size t
  have HDG : Hid (∀ c ∈ t, Lx.digit c = true) := by show ∀ c ∈ t, _; rw [ht]; exact run_digits _
  have j0 : (0 : Int) ≤ (i : Int) := by omega
  have j1 : (i : Int) ≤ (E : Int) := by omega
  have j2 : (E : Int) ≤ (s.size : Int) := by omega
  have hxT : ∀ k (hh : k < (bytesOf t).size), ∃ y, (bytesOf t)[k] = y ∧ t[k]? = some y := fun k hh => by
    have := str_at (bytesOf t) k hh
    rw [bytesOf_toList] at this
    exact ⟨_, rfl, this⟩
  have HXT := Lib.hid hxT
  have hT0 : 0 < (bytesOf t).size := by omega
  obtain ⟨y0, hx0, hy0⟩ := hxT 0 hT0
  have hxy : y0 = x := by rw [ht0] at hy0; injection hy0 with hy0; exact hy0.symm
  subst hxy
  have hc9 : ¬ t.length > 9 ∧ (t.length > 1 → y0 ≠ 48) := ⟨fun hh => hbig (.inl hh), fun hh e => hbig (.inr ⟨hh, e⟩)⟩
  obtain ⟨h9, h48⟩ := hc9
  have e1 : decide ((9 : Int) < ((bytesOf t).size : Int)) = false := by rw [hsz]; simp; omega
  have hcase : (decide ((1 : Int) < ((bytesOf t).size : Int)) = true ∧ ((y0.toNat : Int) == 48) = false) ∨ decide ((1 : Int) < ((bytesOf t).size : Int)) = false := by
    by_cases h1 : t.length > 1
    · exact .inl ⟨by rw [hsz]; simp; omega, byte_ne (k := 48) (h48 h1)⟩
    · exact .inr (by rw [hsz]; simp; omega)
  have hcase2 : (∃ y, ∃ hh : E < s.size, s[E] = y ∧ Lx.letter y = false ∧ (E : Int) < (s.size : Int)) ∨ s.size ≤ E := by
    by_cases h1 : E < s.size
    · exact .inl ⟨_, h1, rfl, hy _ (str_at s E h1), by omega⟩
    · exact .inr (by omega)
  have HH := Lib.hid h
  have HSZ := Lib.hid hsz
  have hTl : (bytesOf t).size ≤ 9 := by omega
  clear hrun ht hE hEl ht0 hx hxT hbig hy h48 h9 hy0 hsz h
  generalize hT : bytesOf t = T at *
  have HT := Lib.hid hT
  clear hT
  have j4 : (0 : Int) ≤ (E : Int) := by omega
  have fin : ∀ (w1 : World), w1.cell? ⟨g, 0, none⟩ = some (.string s) → True := fun _ _ => trivial
  rcases hcase with ⟨e2, e3⟩ | e2
  all_goals
    rcases hcase2 with ⟨y, hEE, hyy, hly, e4⟩ | e4
  all_goals
    go_enter Tryz.func108, Tryz.ntmps108
    go_wp2_with (go_at_call 126; refine HRUN.out.mono ?_; rintro e w' ⟨rfl, rfl⟩)
    go_quiet (fail)
    have c0' : (w.drewN nq).cell? ⟨g, 0, none⟩ = some (.string s) := c0
    have c1' : (w.drewN nq).cell? ⟨g, 1, none⟩ = some (.int .i64 i) := c1
    go_wp2_with (go_at_call 105; refine (letter_any _ _).mono ?_; rintro e w' ⟨rfl, rfl⟩)
    go_loop [5, 59] (fun v q => ∃ k : Nat, k ≤ T.size ∧ q = .int .i64 k ∧ v = .int .i64 (Lx.numOf (t.take k))) (fun _ q => T.size - (intOf q).toNat)
    case atStart => exact ⟨0, Nat.zero_le _, rfl, rfl⟩
    case round =>
      obtain ⟨k, hk, rfl, rfl⟩ := hrel
      by_cases hlt : k < T.size
      · obtain ⟨z, hz, hz'⟩ := HXT.out k hlt
        have hzd := HDG.out z (List.mem_of_getElem? hz')
        rw [digit_eq] at hzd
        simp only [Bool.and_eq_true, decide_eq_true_eq] at hzd
        obtain ⟨z1, z2⟩ := hzd
        have hnb := numOf_lt (t.take k) (fun c hc => HDG.out c (List.mem_of_mem_take hc))
        have hpw : 10 ^ (t.take k).length ≤ 100000000 := by
          have : (10 : Nat) ^ (t.take k).length ≤ 10 ^ 8 := Nat.pow_le_pow_right (by omega) (by simp; omega)
          simpa using this
        have HST := Lib.hid (numOf_snoc t k z hz')
        have hnl : Lx.numOf (t.take k) < 100000000 := by omega
        have k0 : (0 : Int) ≤ (k : Int) := by omega
        have k1 : (k : Int) < (T.size : Int) := by omega
        clear hnb hpw hz'
        generalize Lx.numOf (t.take k) = N at *
        go_wp2_with fail
        go_round
        case rel => exact ⟨k + 1, by omega, by go_num, by rw [HST.out]; congr 1; omega⟩
        case measure => simp [intOf]; omega
      · have hkk : t.take k = t := List.take_of_length_le (by have := HSZ.out; omega)
        rw [hkk]
        have HTT := HT.out
        subst HTT
        have hadd := add_any B g s i E ts 3 t (Lx.numOf t) (w.drewN nq) (HH.out.drewN nq) hn
        have HADD := Lib.hid hadd
        clear hadd hkk
        generalize hNN : Lx.numOf t = N at *
        have HNN := Lib.hid hNN
        clear hNN
        go_wp2_with (go_at_call 80; refine HADD.out.mono ?_; rintro e w2 ⟨rfl, h2, hB2⟩)
        go_ret
        rw [HNN.out]
        exact ⟨rfl, h2, (below_drewN (Below.refl _ _) _).trans hB2⟩
end Go.Proofs.YtafjkbbiaopemaaGreatDoor
namespace Go.Proofs.YtafjkbbiaopemaaGreatDoor
open Go.RowKit
def escB (r : List UInt8) : UInt8 := match Lx.esc r with | some (m, _) => m | none => 0
def escN (r : List UInt8) : Nat := match Lx.esc r with | some (_, k) => k | none => 0
theorem ib_hex (x : UInt8) : Lib.indexByte Lx.hexDigits x = hexI x := by
  have h : ∀ n : Fin 256, Lib.indexByte Lx.hexDigits (UInt8.ofNat n.val) = hexI (UInt8.ofNat n.val) := by decide +kernel
  have := h ⟨x.toNat, x.toNat_lt⟩
  simpa using this
theorem hexI_some {x : UInt8} {v : Nat} (h : Lx.hexV x = some v) : hexI x = v := by unfold hexI; rw [h]
theorem hexI_none {x : UInt8} (h : Lx.hexV x = none) : hexI x = -1 := by unfold hexI; rw [h]
theorem hexV_lt {x : UInt8} {v : Nat} (h : Lx.hexV x = some v) : v < 16 := by
  have h1 := hexI_some h
  rw [hexI_eq] at h1
  split at h1
  · omega
  · split at h1
    · omega
    · omega
theorem bget (l : List UInt8) (k : Nat) (x : UInt8) (hk : k < (bytesOf l).size) (h : l[k]? = some x) : (bytesOf l)[k] = x := by
  have := str_at (bytesOf l) k hk
  rw [bytesOf_toList, h] at this
  injection this with this
  exact this.symm
set_option maxHeartbeats 4000000 in
theorem escape_any (g : Nat) (s : ByteArray) (i : Nat) (r : List UInt8) (w : World) (c0 : w.cell? ⟨g, 0, none⟩ = some (.string s)) (hi : i < s.size) (hs : s.size ≤ 8000) (hr : r = s.data.toList.drop (i + 1)) :
    Calls Tryz.prog 128 #[.pointer (some ⟨g, 0, none⟩), .int .i64 i] w fun e w' => e = .returned (.tuple #[.int .u8 (escB r).toNat, .int .i64 (escN r)]) ∧ ∃ q, w' = w.drewN q := by
  have hext : s.extract (i + 1) s.size = bytesOf r := by
    rw [extract_eq, hr, List.take_of_length_le (by simp)]
  have hsz := bytesOf_size r
  have hrl : r.length ≤ 8000 := by rw [hr]; simp; omega
  have j0 : (0 : Int) ≤ (i : Int) + 1 := by omega
  have j1 : (i : Int) + 1 ≤ (s.size : Int) := by omega
  clear hr
  have htl : (bytesOf r).toList = r := by rw [ByteArray.toList_eq, bytesOf_toList]
  cases r with
  | nil =>
    have hem : (bytesOf []).toList.isEmpty = true := by rw [htl]; rfl
    have HV : Hid (escB [] = 0 ∧ escN [] = 0) := ⟨rfl, rfl⟩
    clear htl
    generalize bytesOf [] = T at *
    go_enter Tryz.func128, Tryz.ntmps128
    go_wp2_with fail
    go_ret2
    exact ⟨by rw [HV.out.1, HV.out.2]; rfl, 0, rfl⟩
  | cons c r' =>
    have hem : (bytesOf (c :: r')).toList.isEmpty = false := by rw [htl]; rfl
    have hp0 : 0 < (bytesOf (c :: r')).size := by rw [hsz]; simp
    have hT0 : (bytesOf (c :: r'))[0]'hp0 = c := bget _ 0 c hp0 rfl
    by_cases h34 : c = 34
    · have HV : Hid (escB (c :: r') = c ∧ escN (c :: r') = 2) := by subst h34; exact ⟨rfl, rfl⟩
      have e1 : ((c.toNat : Int) == 34) = true := by rw [h34]; rfl
      clear htl h34 hsz
      generalize bytesOf (c :: r') = T at *
      go_enter Tryz.func128, Tryz.ntmps128
      go_wp2_with fail
      go_ret2
      exact ⟨by rw [HV.out.1, HV.out.2]; rfl, 0, rfl⟩
    · have e1 : ((c.toNat : Int) == 34) = false := byte_ne (k := 34) h34
      by_cases h92 : c = 92
      · have HV : Hid (escB (c :: r') = c ∧ escN (c :: r') = 2) := by subst h92; exact ⟨rfl, rfl⟩
        have e2 : ((c.toNat : Int) == 92) = true := by rw [h92]; rfl
        clear htl h34 h92 hsz
        generalize bytesOf (c :: r') = T at *
        go_enter Tryz.func128, Tryz.ntmps128
        go_wp2_with fail
        go_ret2
        exact ⟨by rw [HV.out.1, HV.out.2]; rfl, 0, rfl⟩
      · have e2 : ((c.toNat : Int) == 92) = false := byte_ne (k := 92) h92
        by_cases h110 : c = 110
        · have HV : Hid (escB (c :: r') = 10 ∧ escN (c :: r') = 2) := by subst h110; exact ⟨rfl, rfl⟩
          have e3 : ((c.toNat : Int) == 110) = true := by rw [h110]; rfl
          clear htl h34 h92 h110 hsz
          generalize bytesOf (c :: r') = T at *
          go_enter Tryz.func128, Tryz.ntmps128
          go_wp2_with fail
          go_ret2
          exact ⟨by rw [HV.out.1, HV.out.2]; rfl, 0, rfl⟩
        · have e3 : ((c.toNat : Int) == 110) = false := byte_ne (k := 110) h110
          by_cases h120 : c = 120
          · have e4 : ((c.toNat : Int) == 120) = true := by rw [h120]; rfl
            match r' with
            | [] =>
              have HV : Hid (escB (c :: []) = 0 ∧ escN (c :: []) = 0) := by subst h120; exact ⟨rfl, rfl⟩
              have hs1 : (bytesOf (c :: [])).size = 1 := hsz
              clear htl h34 h92 h110 h120 hsz
              generalize bytesOf (c :: []) = T at *
              go_enter Tryz.func128, Tryz.ntmps128
              go_wp2_with fail
              go_ret2
              exact ⟨by rw [HV.out.1, HV.out.2]; rfl, 0, rfl⟩
            | [a] =>
              have HV : Hid (escB (c :: [a]) = 0 ∧ escN (c :: [a]) = 0) := by subst h120; exact ⟨rfl, rfl⟩
              have hs1 : (bytesOf (c :: [a])).size = 2 := hsz
              clear htl h34 h92 h110 h120 hsz
              generalize bytesOf (c :: [a]) = T at *
              go_enter Tryz.func128, Tryz.ntmps128
              go_wp2_with fail
              go_ret2
              exact ⟨by rw [HV.out.1, HV.out.2]; rfl, 0, rfl⟩
            | a :: b :: r2 =>
              have hp2 : 2 < (bytesOf (c :: a :: b :: r2)).size := by rw [hsz]; simp
              have hT1 : (bytesOf (c :: a :: b :: r2))[1]'(Nat.lt_trans (by decide : 1 < 2) hp2) = a := bget _ 1 a (Nat.lt_trans (by decide : 1 < 2) hp2) rfl
              have hT2 : (bytesOf (c :: a :: b :: r2))[2]'hp2 = b := bget _ 2 b hp2 rfl
              have hsb : (bytesOf (c :: a :: b :: r2)).size ≤ 8000 := by rw [hsz]; exact hrl
              have hia := ib_hex a
              have hib := ib_hex b
              unfold Lx.hexDigits at hia hib
              have HV : Hid (escB (c :: a :: b :: r2) = (match Lx.hexV a, Lx.hexV b with | some x, some y => UInt8.ofNat (16 * x + y) | _, _ => 0) ∧ escN (c :: a :: b :: r2) = (match Lx.hexV a, Lx.hexV b with | some _, some _ => 4 | _, _ => 0)) := by
                subst h120
                show _ ∧ _
                have hesc : Lx.esc (120 :: a :: b :: r2) = (match Lx.hexV a, Lx.hexV b with | some x, some y => some (UInt8.ofNat (16 * x + y), 4) | _, _ => none) := by rfl
                unfold escB escN
                rw [hesc]
                cases Lx.hexV a <;> cases Lx.hexV b <;> exact ⟨rfl, rfl⟩
              clear htl h34 h92 h110 h120 hsz
              generalize bytesOf (c :: a :: b :: r2) = T at *
              cases ha : Lx.hexV a with
              | none =>
                rw [hexI_none ha] at hia
                have HV2 : Hid (escB (c :: a :: b :: r2) = 0 ∧ escN (c :: a :: b :: r2) = 0) := by have := HV.out; rw [ha] at this; exact this
                clear HV ha
                generalize hexI b = vb at *
                go_enter Tryz.func128, Tryz.ntmps128
                go_wp2_with fail
                go_quiet ((go_at_call 104; exact Calls.quiet_of_same (indexByte_any _ _ _)))
                go_wp2_with fail
                go_ret2
                exact ⟨by rw [HV2.out.1, HV2.out.2]; rfl, nq, rfl⟩
              | some va =>
                rw [hexI_some ha] at hia
                have hva := hexV_lt ha
                cases hb : Lx.hexV b with
                | none =>
                  rw [hexI_none hb] at hib
                  have HV2 : Hid (escB (c :: a :: b :: r2) = 0 ∧ escN (c :: a :: b :: r2) = 0) := by have := HV.out; rw [ha, hb] at this; exact this
                  clear HV ha hb
                  go_enter Tryz.func128, Tryz.ntmps128
                  go_wp2_with fail
                  go_quiet ((go_at_call 104; exact Calls.quiet_of_same (indexByte_any _ _ _)))
                  go_wp2_with fail
                  go_ret2
                  exact ⟨by rw [HV2.out.1, HV2.out.2]; rfl, nq, rfl⟩
                | some vb =>
                  rw [hexI_some hb] at hib
                  have hvb := hexV_lt hb
                  have HV2 : Hid (escB (c :: a :: b :: r2) = UInt8.ofNat (16 * va + vb) ∧ escN (c :: a :: b :: r2) = 4) := by have := HV.out; rw [ha, hb] at this; exact this
                  have hof : ((UInt8.ofNat (16 * va + vb)).toNat : Int) = 16 * (va : Int) + vb := by simp; omega
                  have HOF := Lib.hid hof
                  clear HV ha hb hof
                  go_enter Tryz.func128, Tryz.ntmps128
                  go_wp2_with fail
                  go_quiet ((go_at_call 104; exact Calls.quiet_of_same (indexByte_any _ _ _)))
                  go_wp2_with fail
                  go_ret2
                  refine ⟨?_, nq, rfl⟩
                  rw [HV2.out.1, HV2.out.2, HOF.out]
                  rfl
          · have e4 : ((c.toNat : Int) == 120) = false := byte_ne (k := 120) h120
            have HV : Hid (escB (c :: r') = 0 ∧ escN (c :: r') = 0) := by
              have : Lx.esc (c :: r') = none := by simp [Lx.esc, h34, h92, h110, h120]
              show _ ∧ _
              unfold escB escN
              rw [this]
              exact ⟨rfl, rfl⟩
            clear htl h34 h92 h110 h120 hsz
            generalize bytesOf (c :: r') = T at *
            go_enter Tryz.func128, Tryz.ntmps128
            go_wp2_with fail
            go_ret2
            exact ⟨by rw [HV.out.1, HV.out.2]; rfl, 0, rfl⟩
end Go.Proofs.YtafjkbbiaopemaaGreatDoor
