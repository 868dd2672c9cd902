/- Part of the proof: LexU1, LexU2. -/
import Derived.Test.YtafjkbbiaopemaaGreatDoorTox12
set_option linter.unusedVariables false
namespace Go.Proofs.YtafjkbbiaopemaaGreatDoor
open Go.RowKit
theorem rletter_s (x : UInt8) (w : World) : Calls Tryz.prog 57 #[.int .u8 x.toNat] w fun e w' => e = .returned (.bool (Lx.letter x)) ∧ w = w' := (rletter_any x w).mono fun _ _ ⟨a, b⟩ => ⟨a, b.symm⟩
theorem rdigit_s (x : UInt8) (w : World) : Calls Tryz.prog 58 #[.int .u8 x.toNat] w fun e w' => e = .returned (.bool (Lx.digit x)) ∧ w = w' := (rdigit_any x w).mono fun _ _ ⟨a, b⟩ => ⟨a, b.symm⟩
theorem rmark_s (x : UInt8) (w : World) : Calls Tryz.prog 61 #[.int .u8 x.toNat] w fun e w' => e = .returned (.bool (Lx.mark x)) ∧ w = w' := (rmark_any x w).mono fun _ _ ⟨a, b⟩ => ⟨a, b.symm⟩
theorem rres_s (t : List UInt8) (w : World) : Calls Tryz.prog 59 #[.string (bytesOf t)] w fun e w' => e = .returned (.bool (Lx.reserved t)) ∧ w = w' := (rreserved_any (bytesOf t) w).mono fun _ _ ⟨a, b⟩ => ⟨by rw [a, bytesOf_toList], b.symm⟩
section
variable {l : List UInt8} {n j : Nat} {ts : List Lx.Tok}
def scr (l : List UInt8) (n j : Nat) (ts : List Lx.Tok) : Sum (List UInt8) (List Lx.Tok) := Lx.scanF n (n - j + 1) (l.drop j) ts
theorem scr_move (hn : l.length = n) {j' : Nat} (h : Lx.skip false (l.drop j) = Lx.skip false (l.drop j')) (h1 : j ≤ j') (h2 : j' ≤ n) : scr l n j ts = scr l n j' ts := by
  unfold scr
  rw [Lx.scan_skip, h, ← Lx.scan_skip]
  exact Lx.scan_fuel _ _ _ _ (by simp; omega) _ (by simp; omega)
theorem scr_end (hn : l.length = n) (h : n ≤ j) : scr l n j ts = .inr (ts ++ [⟨6, [], 0, n⟩]) := by
  unfold scr
  rw [List.drop_eq_nil_of_le (by omega), Lx.scan_end]
theorem scr_bad {x : UInt8} (hx : l[j]? = some x) (h1 : Lx.blank x = false) (h2 : x ≠ 35) {y : List UInt8} (ht : Lx.token (l.drop j) = .inl y) : scr l n j ts = .inl y := by
  have hs := skip_stop hx h1 h2
  unfold scr
  rw [drop_cons hx] at hs ht ⊢
  rw [Lx.scan_step _ _ _ _ _ hs, ht]
theorem scr_tok (hn : l.length = n) {x : UInt8} (hx : l[j]? = some x) (h1 : Lx.blank x = false) (h2 : x ≠ 35) {k m i : Nat} {t : List UInt8} (ht : Lx.token (l.drop j) = .inr (k, t, m, l.drop i)) (hi : i ≤ n) :
    j < i ∧ scr l n j ts = scr l n i (ts ++ [⟨k, t, m, j⟩]) := by
  have hs := skip_stop hx h1 h2
  have hj : j < l.length := (List.getElem?_eq_some_iff.1 hx).1
  have hlen : (l.drop i).length < (l.drop j).length := by
    rw [drop_cons hx] at ht ⊢
    exact Lx.token_len ht
  simp at hlen
  refine ⟨by omega, ?_⟩
  unfold scr
  have hd : (l.drop j).length = n - j := by simp [hn]
  rw [drop_cons hx] at hs ht hd ⊢
  rw [Lx.scan_step _ _ _ _ _ hs, ht]
  simp only []
  rw [hd, show n - (n - j) = j from by omega]
  exact Lx.scan_fuel _ _ _ _ (by simp; omega) _ (by simp; omega)
end
theorem own_below {w w' : World} {base n sz : Nat} {e : TypeId} {v : Value} {xs : List Value} (h : w.ownsRow base e sz v n xs) (hb : Below w.heap.size w w') : w'.ownsRow base e sz v n xs := by
  refine ⟨h.1, ?_⟩
  rcases h.2 with h3 | ⟨g', cap, cur, hv, hg', hh, r⟩
  · exact .inl h3
  · exact .inr ⟨g', cap, cur, hv, hg', (hb.block g' (Array.getElem?_eq_some_iff.1 hh).1).trans hh, r⟩
structure RMid (w : World) (s : ByteArray) (R : Sum (List UInt8) (List Lx.Tok)) (j : Nat) (ts : List Lx.Tok) (A : Option Addr) (c : Nat) (wr : World) : Prop where
  own : wr.ownsRow (w.heap.size + 1) 72 4 (.slice A ts.length c) ts.length (toksCells ts)
  ft : Blk wr w.heap.size 29 [.int .i64 0, .int .i64 0]
  bel : Below w.heap.size w wr
  le : j ≤ s.size
  few : ts.length ≤ j
  res : R = scr s.data.toList s.size j ts
theorem RMid.to {w wr wr' : World} {s : ByteArray} {R : Sum (List UInt8) (List Lx.Tok)} {j i : Nat} {ts : List Lx.Tok} {A : Option Addr} {c : Nat} (h : RMid w s R j ts A c wr) (hB : wr' = wr) (hi : i ≤ s.size) (hji : j ≤ i) (hr : scr s.data.toList s.size j ts = scr s.data.toList s.size i ts) : RMid w s R i ts A c wr' := by
  subst hB
  exact ⟨h.own, h.ft, h.bel, hi, by have := h.few; omega, h.res.trans hr⟩
theorem RMid.app {w wr wr' w3 : World} {s : ByteArray} {R : Sum (List UInt8) (List Lx.Tok)} {j i : Nat} {ts : List Lx.Tok} {A A2 : Option Addr} {c c2 : Nat} {t : Lx.Tok} (h : RMid w s R j ts A c wr) (hft : Blk wr' w.heap.size 29 [.int .i64 0, .int .i64 0]) (hbel : Below w.heap.size w wr') (hi : i ≤ s.size) (hji : j < i)
    (hg : wr'.grownBy w3 (Value.ownBlock (.slice A ts.length c))) (hown : w3.ownsRow (w.heap.size + 1) 72 4 (.slice A2 (ts.length + 1) c2) (ts.length + 1) (toksCells ts ++ tokCells t)) (hr : scr s.data.toList s.size j ts = scr s.data.toList s.size i (ts ++ [t])) : RMid w s R i (ts ++ [t]) A2 c2 w3 := by
  obtain ⟨hB3, hb3⟩ := app_keep h.own hbel hft hg
  exact ⟨by rw [toksCells_snoc, List.length_append]; exact hown, hb3, hB3, hi, by rw [List.length_append]; simp; have := h.few; omega, h.res.trans hr⟩
theorem rpost_bad {w w2 : World} {s : ByteArray} {R : Sum (List UInt8) (List Lx.Tok)} {q : Nat} (hs : s.size ≤ 8000) (HR : R = Lx.scanF s.size (s.size + 1) s.data.toList []) {x : List UInt8} (hR : R = .inl x) (hq : s.size - x.length = q) (hB : Below w.heap.size w w2) :
    ScanPost w (Lx.scan s.data.toList) (.returned (.tuple #[.slice none 0 0, .agg #[.int .i64 9, .int .i64 q]])) w2 := by
  have hsc := scan_inl hs (HR.symm.trans hR)
  rw [hq] at hsc
  rw [hsc]
  exact ⟨none, 0, rfl, Nat.le_refl _, World.ownsRow_nil _ _ _ _, hB⟩
set_option maxRecDepth 100000 in
set_option maxHeartbeats 4000000 in
theorem rscan_big (s : ByteArray) (w : World) (hs : 8000 < s.size) : Calls Tryz.prog 25 #[.string s] w (ScanPost w (Lx.scan s.data.toList)) := by
  have hsc : Lx.scan s.data.toList = ((2, 0), []) := by unfold Lx.scan; rw [if_pos (by simpa using hs)]
  rw [hsc]
  have e1 : decide ((8000 : Int) < (s.size : Int)) = true := by simp; omega
  go_enter Tryz.func25, Tryz.ntmps25
  go_wp2_with fail
  exact bodyPost_ret (res_tmp_cell rfl _ w.heap.size 29 [.int .i64 2, .int .i64 0] rfl (Blk.new w _ _) _ Tryz.underlying29 rfl hd48) rfl
    ⟨none, 0, rfl, Nat.le_refl _, World.ownsRow_nil _ _ _ _, (Below.refl _ _).alloc (Nat.le_refl _) _⟩
def firstLoop : Code → Option Code
  | .loop c => some c
  | .seq a b => match firstLoop a with
    | some c => some c
    | none => firstLoop b
  | .block _ c => firstLoop c
  | .scope c => firstLoop c
  | .cond _ a b => match firstLoop a with
    | some c => some c
    | none => firstLoop b
  | _ => none
def IsBody (c : Code) : Prop := Tryz.f25.body.bind firstLoop = some c
set_option maxRecDepth 100000 in
theorem frame197 (t : Array Value) (h : t.size = 197) : ∃ u : Nat → Value, (∀ k, u k = t.getD k undef) ∧ t = #[u 0, u 1, u 2, u 3, u 4, u 5, u 6, u 7, u 8, u 9, u 10, u 11, u 12, u 13, u 14, u 15, u 16, u 17, u 18, u 19, u 20, u 21, u 22, u 23, u 24, u 25, u 26, u 27, u 28, u 29, u 30, u 31, u 32, u 33, u 34, u 35, u 36, u 37, u 38, u 39, u 40, u 41, u 42, u 43, u 44, u 45, u 46, u 47, u 48, u 49, u 50, u 51, u 52, u 53, u 54, u 55, u 56, u 57, u 58, u 59, u 60, u 61, u 62, u 63, u 64, u 65, u 66, u 67, u 68, u 69, u 70, u 71, u 72, u 73, u 74, u 75, u 76, u 77, u 78, u 79, u 80, u 81, u 82, u 83, u 84, u 85, u 86, u 87, u 88, u 89, u 90, u 91, u 92, u 93, u 94, u 95, u 96, u 97, u 98, u 99, u 100, u 101, u 102, u 103, u 104, u 105, u 106, u 107, u 108, u 109, u 110, u 111, u 112, u 113, u 114, u 115, u 116, u 117, u 118, u 119, u 120, u 121, u 122, u 123, u 124, u 125, u 126, u 127, u 128, u 129, u 130, u 131, u 132, u 133, u 134, u 135, u 136, u 137, u 138, u 139, u 140, u 141, u 142, u 143, u 144, u 145, u 146, u 147, u 148, u 149, u 150, u 151, u 152, u 153, u 154, u 155, u 156, u 157, u 158, u 159, u 160, u 161, u 162, u 163, u 164, u 165, u 166, u 167, u 168, u 169, u 170, u 171, u 172, u 173, u 174, u 175, u 176, u 177, u 178, u 179, u 180, u 181, u 182, u 183, u 184, u 185, u 186, u 187, u 188, u 189, u 190, u 191, u 192, u 193, u 194, u 195, u 196] := by
  refine ⟨fun k => t.getD k undef, fun _ => rfl, ?_⟩
  have : t = Array.ofFn (n := 197) (fun i => t.getD i undef) := by
    apply Array.ext
    · simp [h]
    · intro i h1 h2
      simp [Array.getD, h1]
  refine this.trans ?_
  kernel_rfl
def RInv (w : World) (s : ByteArray) (R : Sum (List UInt8) (List Lx.Tok)) (k : Nat) (a : Act) (wr : World) : Prop :=
  ∃ (j : Nat) (ts : List Lx.Tok) (A : Option Addr) (c : Nat), k = s.size - j ∧ RMid w s R j ts A c wr ∧ a.defers = [] ∧ a.tmps.size = 197 ∧ a.tmps.getD 0 undef = .string s ∧ a.tmps.getD 3 undef = .pointer (some ⟨w.heap.size, 0, none⟩) ∧ a.tmps.getD 4 undef = .slice A ts.length c ∧ a.tmps.getD 5 undef = .int .i64 j
set_option maxRecDepth 100000 in
set_option maxHeartbeats 4000000 in
theorem case_blank (body : Code) (hb : IsBody body) (s : ByteArray) (w wr : World) (R : Sum (List UInt8) (List Lx.Tok)) (hs : s.size ≤ 8000) (HR : Hid (R = Lx.scanF s.size (s.size + 1) s.data.toList [])) (HN : Hid (s.data.toList.length = s.size))
    (gk j : Nat) (ts : List Lx.Tok) (A : Option Addr) (c : Nat) (u : Nat → Value) (J : Nat → Act → World → Prop) (K K1 : Act → World → Prop) (hJ : ∀ k a' w', RInv w s R k a' w' → J k a' w') (hK : ∀ a' w', Handed J gk a' w' → K a' w')
    (HGK : Hid (gk = s.size - j)) (HM : Hid (RMid w s R j ts A c wr)) (hle : j ≤ s.size) (hfew : ts.length ≤ j) (hgl : w.heap.size < wr.heap.size) (hlt : j < s.size) (x : UInt8) (hxx : s[j] = x) (HX : Hid (s.data.toList[j]? = some x)) (hbl : Lx.blank x = true) :
    body.wp Tryz.prog (Exit.then K (Exit.inBlock 0 (Exit.then K1 (bodyPost Tryz.prog Tryz.f25 (ScanPost w (Lx.scan s.data.toList)))))) ⟨#[.string s, u 1, u 2, .pointer (some ⟨w.heap.size, 0, none⟩), .slice A ts.length c, .int .i64 j, u 6, u 7, u 8, u 9, u 10, u 11, u 12, u 13, u 14, u 15, u 16, u 17, u 18, u 19, u 20, u 21, u 22, u 23, u 24, u 25, u 26, u 27, u 28, u 29, u 30, u 31, u 32, u 33, u 34, u 35, u 36, u 37, u 38, u 39, u 40, u 41, u 42, u 43, u 44, u 45, u 46, u 47, u 48, u 49, u 50, u 51, u 52, u 53, u 54, u 55, u 56, u 57, u 58, u 59, u 60, u 61, u 62, u 63, u 64, u 65, u 66, u 67, u 68, u 69, u 70, u 71, u 72, u 73, u 74, u 75, u 76, u 77, u 78, u 79, u 80, u 81, u 82, u 83, u 84, u 85, u 86, u 87, u 88, u 89, u 90, u 91, u 92, u 93, u 94, u 95, u 96, u 97, u 98, u 99, u 100, u 101, u 102, u 103, u 104, u 105, u 106, u 107, u 108, u 109, u 110, u 111, u 112, u 113, u 114, u 115, u 116, u 117, u 118, u 119, u 120, u 121, u 122, u 123, u 124, u 125, u 126, u 127, u 128, u 129, u 130, u 131, u 132, u 133, u 134, u 135, u 136, u 137, u 138, u 139, u 140, u 141, u 142, u 143, u 144, u 145, u 146, u 147, u 148, u 149, u 150, u 151, u 152, u 153, u 154, u 155, u 156, u 157, u 158, u 159, u 160, u 161, u 162, u 163, u 164, u 165, u 166, u 167, u 168, u 169, u 170, u 171, u 172, u 173, u 174, u 175, u 176, u 177, u 178, u 179, u 180, u 181, u 182, u 183, u 184, u 185, u 186, u 187, u 188, u 189, u 190, u 191, u 192, u 193, u 194, u 195, u 196], []⟩ wr := by
  unfold IsBody at hb
  conv at hb => lhs; whnf
  injection hb with hb
  subst hb
  have i1 : (j : Int) < (s.size : Int) := by omega
  have i0 : (0 : Int) ≤ (j : Int) := by omega
  have HST := Lib.hid (skip_blank HX.out hbl)
  have hcase : ((x.toNat : Int) == 32) = true ∨ (((x.toNat : Int) == 32) = false ∧ ((x.toNat : Int) == 9) = true) ∨ (((x.toNat : Int) == 32) = false ∧ ((x.toNat : Int) == 9) = false ∧ ((x.toNat : Int) == 10) = true) := by
    by_cases x1 : x = 32
    · exact .inl (by rw [x1]; rfl)
    · by_cases x2 : x = 9
      · exact .inr (.inl ⟨byte_ne (k := 32) x1, by rw [x2]; rfl⟩)
      · have x3 : x = 10 := by simpa [Lx.blank, x1, x2] using hbl
        exact .inr (.inr ⟨byte_ne (k := 32) x1, byte_ne (k := 9) x2, by rw [x3]; rfl⟩)
  clear hbl
  rcases hcase with a1 | ⟨a1, a2⟩ | ⟨a1, a2, a3⟩
  all_goals
    go_wp2_with fail
    refine Handed.intro (s.size - (j + 1)) ?_ (hJ _ _ _ ⟨j + 1, ts, A, c, rfl, HM.out.to rfl (by omega) (by omega) (scr_move HN.out HST.out (by omega) (by omega)), rfl, rfl, rfl, rfl, rfl, by show Value.int _ _ = _; first | rfl | go_num⟩)
    have := HGK.out; omega
set_option maxRecDepth 100000 in
set_option maxHeartbeats 4000000 in
theorem case_com (body : Code) (hb : IsBody body) (s : ByteArray) (w wr : World) (R : Sum (List UInt8) (List Lx.Tok)) (hs : s.size ≤ 8000) (HR : Hid (R = Lx.scanF s.size (s.size + 1) s.data.toList [])) (HN : Hid (s.data.toList.length = s.size))
    (gk j : Nat) (ts : List Lx.Tok) (A : Option Addr) (c : Nat) (u : Nat → Value) (J : Nat → Act → World → Prop) (K K1 : Act → World → Prop) (hJ : ∀ k a' w', RInv w s R k a' w' → J k a' w') (hK : ∀ a' w', Handed J gk a' w' → K a' w')
    (HGK : Hid (gk = s.size - j)) (HM : Hid (RMid w s R j ts A c wr)) (hle : j ≤ s.size) (hfew : ts.length ≤ j) (hgl : w.heap.size < wr.heap.size) (hlt : j < s.size) (x : UInt8) (hxx : s[j] = x) (HX : Hid (s.data.toList[j]? = some x)) (HBL : Hid (Lx.blank x = false)) (b1 : ((x.toNat : Int) == 32) = false) (b2 : ((x.toNat : Int) == 9) = false) (b3 : ((x.toNat : Int) == 10) = false) (h35 : x = 35) :
    body.wp Tryz.prog (Exit.then K (Exit.inBlock 0 (Exit.then K1 (bodyPost Tryz.prog Tryz.f25 (ScanPost w (Lx.scan s.data.toList)))))) ⟨#[.string s, u 1, u 2, .pointer (some ⟨w.heap.size, 0, none⟩), .slice A ts.length c, .int .i64 j, u 6, u 7, u 8, u 9, u 10, u 11, u 12, u 13, u 14, u 15, u 16, u 17, u 18, u 19, u 20, u 21, u 22, u 23, u 24, u 25, u 26, u 27, u 28, u 29, u 30, u 31, u 32, u 33, u 34, u 35, u 36, u 37, u 38, u 39, u 40, u 41, u 42, u 43, u 44, u 45, u 46, u 47, u 48, u 49, u 50, u 51, u 52, u 53, u 54, u 55, u 56, u 57, u 58, u 59, u 60, u 61, u 62, u 63, u 64, u 65, u 66, u 67, u 68, u 69, u 70, u 71, u 72, u 73, u 74, u 75, u 76, u 77, u 78, u 79, u 80, u 81, u 82, u 83, u 84, u 85, u 86, u 87, u 88, u 89, u 90, u 91, u 92, u 93, u 94, u 95, u 96, u 97, u 98, u 99, u 100, u 101, u 102, u 103, u 104, u 105, u 106, u 107, u 108, u 109, u 110, u 111, u 112, u 113, u 114, u 115, u 116, u 117, u 118, u 119, u 120, u 121, u 122, u 123, u 124, u 125, u 126, u 127, u 128, u 129, u 130, u 131, u 132, u 133, u 134, u 135, u 136, u 137, u 138, u 139, u 140, u 141, u 142, u 143, u 144, u 145, u 146, u 147, u 148, u 149, u 150, u 151, u 152, u 153, u 154, u 155, u 156, u 157, u 158, u 159, u 160, u 161, u 162, u 163, u 164, u 165, u 166, u 167, u 168, u 169, u 170, u 171, u 172, u 173, u 174, u 175, u 176, u 177, u 178, u 179, u 180, u 181, u 182, u 183, u 184, u 185, u 186, u 187, u 188, u 189, u 190, u 191, u 192, u 193, u 194, u 195, u 196], []⟩ wr := by
  unfold IsBody at hb
  conv at hb => lhs; whnf
  injection hb with hb
  subst hb
  have i1 : (j : Int) < (s.size : Int) := by omega
  have i0 : (0 : Int) ≤ (j : Int) := by omega
  have e35 : ((x.toNat : Int) == 35) = true := by rw [h35]; rfl
  have HSK := Lib.hid (skip_com HX.out h35)
  have HX35 := Lib.hid h35
  clear h35
  go_wp2_with fail
  go_loop [5] (fun q => ∃ i : Nat, j ≤ i ∧ i ≤ s.size ∧ q = .int .i64 i ∧ Hid (Lx.skip true (s.data.toList.drop i) = Lx.skip false (s.data.toList.drop j))) (fun q => s.size - (intOf q).toNat)
  case atStart => exact ⟨j, Nat.le_refl _, by omega, rfl, HSK.out.symm⟩
  case round =>
    obtain ⟨i, hji, hi, rfl, HI⟩ := hrel
    by_cases hlt2 : i < s.size
    · have j1 : (i : Int) < (s.size : Int) := by omega
      have j0 : (0 : Int) ≤ (i : Int) := by omega
      have hy := str_at s i hlt2
      generalize hyy : s[i] = y at hy
      have HY := Lib.hid hy
      clear hy
      by_cases h10 : y = 10
      · have e10 : ((y.toNat : Int) != 10) = false := by rw [h10]; rfl
        have hij : j < i := by
          rcases Nat.lt_or_ge j i with h | h
          · exact h
          · obtain rfl : i = j := by omega
            have := HX.out.symm.trans HY.out
            injection this with this
            rw [HX35.out, h10] at this
            exact absurd this (by decide)
        have HMV := Lib.hid (HI.out.symm.trans (skip_out HY.out h10))
        clear h10
        go_wp2_with fail
        refine Handed.intro (s.size - i) ?_ (hJ _ _ _ ⟨i, ts, A, c, rfl, HM.out.to rfl (by omega) (by omega) (scr_move HN.out HMV.out (by omega) (by omega)), rfl, rfl, rfl, rfl, rfl, by show Value.int _ _ = _; first | rfl | go_num⟩)
        have := HGK.out; omega
      · have e10 : ((y.toNat : Int) != 10) = true := byte_nb (k := 10) h10
        have HMV := Lib.hid ((skip_in HY.out h10).symm.trans HI.out)
        clear h10
        go_wp2_with fail
        go_round
        case rel => exact ⟨i + 1, by omega, by omega, by go_num, HMV.out⟩
        case measure => simp [intOf]; omega
    · have hie : s.size ≤ i := by omega
      have HMV : Hid (Lx.skip false (s.data.toList.drop j) = Lx.skip false (s.data.toList.drop i)) := by
        show _ = _
        rw [← HI.out, skip_end (by rw [HN.out]; exact hie), skip_end (by rw [HN.out]; exact hie)]
      go_wp2_with fail
      refine Handed.intro (s.size - i) ?_ (hJ _ _ _ ⟨i, ts, A, c, rfl, HM.out.to rfl (by omega) (by omega) (scr_move HN.out HMV.out (by omega) (by omega)), rfl, rfl, rfl, rfl, rfl, by show Value.int _ _ = _; first | rfl | go_num⟩)
      have := HGK.out; omega
set_option maxRecDepth 100000 in
set_option maxHeartbeats 4000000 in
theorem case_mark (body : Code) (hb : IsBody body) (s : ByteArray) (w wr : World) (R : Sum (List UInt8) (List Lx.Tok)) (hs : s.size ≤ 8000) (HR : Hid (R = Lx.scanF s.size (s.size + 1) s.data.toList [])) (HN : Hid (s.data.toList.length = s.size))
    (gk j : Nat) (ts : List Lx.Tok) (A : Option Addr) (c : Nat) (u : Nat → Value) (J : Nat → Act → World → Prop) (K K1 : Act → World → Prop) (hJ : ∀ k a' w', RInv w s R k a' w' → J k a' w') (hK : ∀ a' w', Handed J gk a' w' → K a' w')
    (HGK : Hid (gk = s.size - j)) (HM : Hid (RMid w s R j ts A c wr)) (hle : j ≤ s.size) (hfew : ts.length ≤ j) (hgl : w.heap.size < wr.heap.size) (hlt : j < s.size) (x : UInt8) (hxx : s[j] = x) (HX : Hid (s.data.toList[j]? = some x)) (HBL : Hid (Lx.blank x = false)) (b1 : ((x.toNat : Int) == 32) = false) (b2 : ((x.toNat : Int) == 9) = false) (b3 : ((x.toNat : Int) == 10) = false) (e35 : ((x.toNat : Int) == 35) = false) (H35 : Hid (x ≠ 35)) (hown : wr.ownsRow (w.heap.size + 1) 72 4 (.slice A ts.length c) ts.length (toksCells ts)) (hl : Lx.letter x = false) (hd : Lx.digit x = false) (h34 : x ≠ 34) :
    body.wp Tryz.prog (Exit.then K (Exit.inBlock 0 (Exit.then K1 (bodyPost Tryz.prog Tryz.f25 (ScanPost w (Lx.scan s.data.toList)))))) ⟨#[.string s, u 1, u 2, .pointer (some ⟨w.heap.size, 0, none⟩), .slice A ts.length c, .int .i64 j, u 6, u 7, u 8, u 9, u 10, u 11, u 12, u 13, u 14, u 15, u 16, u 17, u 18, u 19, u 20, u 21, u 22, u 23, u 24, u 25, u 26, u 27, u 28, u 29, u 30, u 31, u 32, u 33, u 34, u 35, u 36, u 37, u 38, u 39, u 40, u 41, u 42, u 43, u 44, u 45, u 46, u 47, u 48, u 49, u 50, u 51, u 52, u 53, u 54, u 55, u 56, u 57, u 58, u 59, u 60, u 61, u 62, u 63, u 64, u 65, u 66, u 67, u 68, u 69, u 70, u 71, u 72, u 73, u 74, u 75, u 76, u 77, u 78, u 79, u 80, u 81, u 82, u 83, u 84, u 85, u 86, u 87, u 88, u 89, u 90, u 91, u 92, u 93, u 94, u 95, u 96, u 97, u 98, u 99, u 100, u 101, u 102, u 103, u 104, u 105, u 106, u 107, u 108, u 109, u 110, u 111, u 112, u 113, u 114, u 115, u 116, u 117, u 118, u 119, u 120, u 121, u 122, u 123, u 124, u 125, u 126, u 127, u 128, u 129, u 130, u 131, u 132, u 133, u 134, u 135, u 136, u 137, u 138, u 139, u 140, u 141, u 142, u 143, u 144, u 145, u 146, u 147, u 148, u 149, u 150, u 151, u 152, u 153, u 154, u 155, u 156, u 157, u 158, u 159, u 160, u 161, u 162, u 163, u 164, u 165, u 166, u 167, u 168, u 169, u 170, u 171, u 172, u 173, u 174, u 175, u 176, u 177, u 178, u 179, u 180, u 181, u 182, u 183, u 184, u 185, u 186, u 187, u 188, u 189, u 190, u 191, u 192, u 193, u 194, u 195, u 196], []⟩ wr := by
  unfold IsBody at hb
  conv at hb => lhs; whnf
  injection hb with hb
  subst hb
  have i1 : (j : Int) < (s.size : Int) := by omega
  have i0 : (0 : Int) ≤ (j : Int) := by omega
  have e34 : ((x.toNat : Int) == 34) = false := byte_ne (k := 34) h34
  by_cases hm : Lx.mark x = true
  · have hext : s.extract j (j + 1) = bytesOf [x] := by
      rw [extract_eq, show j + 1 - j = 1 from by omega, drop_cons HX.out]; rfl
    have HTK : Hid (scr s.data.toList s.size j ts = scr s.data.toList s.size (j + 1) (ts ++ [⟨5, [x], 0, j⟩])) := (scr_tok HN.out HX.out HBL.out H35.out (tok_mark HX.out hl hd h34 hm) (by omega)).2
    clear h34
    go_wp2_with (first | (go_at_call 57; refine (rletter_s _ _).mono ?_; rintro e w' ⟨rfl, rfl⟩) | (go_at_call 58; refine (rdigit_s _ _).mono ?_; rintro e w' ⟨rfl, rfl⟩) | (go_at_call 61; refine (rmark_s _ _).mono ?_; rintro e w' ⟨rfl, rfl⟩) | (at_builtin; refine wpList_app rfl (.tmp 176) (.tmp 183) _ rfl (w.heap.size + 1) 72 4 40 Tryz.underlying65 eTok (.slice A ts.length c) ts.length (toksCells ts) (by rfl) (by exact hown.alloc _) (some ⟨wr.heap.size, 0, none⟩) 1 1 [.int .i64 5, .string (bytesOf [x]), .int .i64 0, .int .i64 j] (by rfl) (by exact RdS.new wr _ [.int .i64 5, .string (bytesOf [x]), .int .i64 0, .int .i64 j] 4 rfl) (by simp [Value.oneCell']) (by omega) (by omega) (by simp; omega) ?_; intro A2 c2 w3 hown2 hc2 hg2 hat2; obtain ⟨hB3, hf3⟩ := app_keep hown (HM.out.bel.alloc HM.out.bel.size _) (HM.out.ft.alloc _) hg2; have d0 : w3.cell? ⟨w.heap.size, 0, none⟩ = some (.int .i64 0) := (hf3.cell 0); have d1 : w3.cell? ⟨w.heap.size, 1, none⟩ = some (.int .i64 0) := (hf3.cell 1); have f0 := hf3.frozen 0; have f1 := hf3.frozen 1))
    clear d0 d1 f0 f1
    refine Handed.intro (s.size - (j + 1)) ?_ (hJ _ _ _ ⟨j + 1, ts ++ [⟨5, [x], 0, j⟩], A2, c2, rfl, HM.out.app (t := ⟨5, [x], 0, j⟩) (HM.out.ft.alloc _) (HM.out.bel.alloc HM.out.bel.size _) (by omega) (by omega) hg2 hown2 HTK.out, rfl, rfl, rfl, rfl, by rw [List.length_append]; rfl, by show Value.int _ _ = _; first | rfl | go_num⟩)
    have := HGK.out; omega
  · have hm' : Lx.mark x = false := by simpa using hm
    have HBD : Hid (R = .inl (s.data.toList.drop j)) := HM.out.res.trans (scr_bad HX.out HBL.out H35.out (tok_none HX.out hl hd h34 hm'))
    clear h34 hm
    have hft := HM.out.ft
    have d0 : wr.cell? ⟨w.heap.size, 0, none⟩ = some (.int .i64 0) := hft.cell 0
    have d1 : wr.cell? ⟨w.heap.size, 1, none⟩ = some (.int .i64 0) := hft.cell 1
    have f0 := hft.frozen 0
    have f1 := hft.frozen 1
    have hbel := HM.out.bel
    go_wp2_with (first | (go_at_call 57; refine (rletter_s _ _).mono ?_; rintro e w' ⟨rfl, rfl⟩) | (go_at_call 58; refine (rdigit_s _ _).mono ?_; rintro e w' ⟨rfl, rfl⟩) | (go_at_call 61; refine (rmark_s _ _).mono ?_; rintro e w' ⟨rfl, rfl⟩))
    refine bodyPost_ret (res_tmp_cell rfl _ w.heap.size 29 [.int .i64 9, .int .i64 j] rfl ((hft.set_ 0 _).set_ 1 _) _ Tryz.underlying29 rfl hd48) rfl ?_
    exact rpost_bad hs HR.out HBD.out (by simp; omega) ((hbel.setCell (Nat.le_refl _) _).setCell (Nat.le_refl _) _)
set_option maxRecDepth 100000 in
set_option maxHeartbeats 4000000 in
theorem case_text (body : Code) (hb : IsBody body) (s : ByteArray) (w wr : World) (R : Sum (List UInt8) (List Lx.Tok)) (hs : s.size ≤ 8000) (HR : Hid (R = Lx.scanF s.size (s.size + 1) s.data.toList [])) (HN : Hid (s.data.toList.length = s.size))
    (gk j : Nat) (ts : List Lx.Tok) (A : Option Addr) (c : Nat) (u : Nat → Value) (J : Nat → Act → World → Prop) (K K1 : Act → World → Prop) (hJ : ∀ k a' w', RInv w s R k a' w' → J k a' w') (hK : ∀ a' w', Handed J gk a' w' → K a' w')
    (HGK : Hid (gk = s.size - j)) (HM : Hid (RMid w s R j ts A c wr)) (hle : j ≤ s.size) (hfew : ts.length ≤ j) (hgl : w.heap.size < wr.heap.size) (hlt : j < s.size) (x : UInt8) (hxx : s[j] = x) (HX : Hid (s.data.toList[j]? = some x)) (HBL : Hid (Lx.blank x = false)) (b1 : ((x.toNat : Int) == 32) = false) (b2 : ((x.toNat : Int) == 9) = false) (b3 : ((x.toNat : Int) == 10) = false) (e35 : ((x.toNat : Int) == 35) = false) (H35 : Hid (x ≠ 35)) (hown : wr.ownsRow (w.heap.size + 1) 72 4 (.slice A ts.length c) ts.length (toksCells ts)) (hl : Lx.letter x = false) (hd : Lx.digit x = false) (h34 : x = 34) :
    body.wp Tryz.prog (Exit.then K (Exit.inBlock 0 (Exit.then K1 (bodyPost Tryz.prog Tryz.f25 (ScanPost w (Lx.scan s.data.toList)))))) ⟨#[.string s, u 1, u 2, .pointer (some ⟨w.heap.size, 0, none⟩), .slice A ts.length c, .int .i64 j, u 6, u 7, u 8, u 9, u 10, u 11, u 12, u 13, u 14, u 15, u 16, u 17, u 18, u 19, u 20, u 21, u 22, u 23, u 24, u 25, u 26, u 27, u 28, u 29, u 30, u 31, u 32, u 33, u 34, u 35, u 36, u 37, u 38, u 39, u 40, u 41, u 42, u 43, u 44, u 45, u 46, u 47, u 48, u 49, u 50, u 51, u 52, u 53, u 54, u 55, u 56, u 57, u 58, u 59, u 60, u 61, u 62, u 63, u 64, u 65, u 66, u 67, u 68, u 69, u 70, u 71, u 72, u 73, u 74, u 75, u 76, u 77, u 78, u 79, u 80, u 81, u 82, u 83, u 84, u 85, u 86, u 87, u 88, u 89, u 90, u 91, u 92, u 93, u 94, u 95, u 96, u 97, u 98, u 99, u 100, u 101, u 102, u 103, u 104, u 105, u 106, u 107, u 108, u 109, u 110, u 111, u 112, u 113, u 114, u 115, u 116, u 117, u 118, u 119, u 120, u 121, u 122, u 123, u 124, u 125, u 126, u 127, u 128, u 129, u 130, u 131, u 132, u 133, u 134, u 135, u 136, u 137, u 138, u 139, u 140, u 141, u 142, u 143, u 144, u 145, u 146, u 147, u 148, u 149, u 150, u 151, u 152, u 153, u 154, u 155, u 156, u 157, u 158, u 159, u 160, u 161, u 162, u 163, u 164, u 165, u 166, u 167, u 168, u 169, u 170, u 171, u 172, u 173, u 174, u 175, u 176, u 177, u 178, u 179, u 180, u 181, u 182, u 183, u 184, u 185, u 186, u 187, u 188, u 189, u 190, u 191, u 192, u 193, u 194, u 195, u 196], []⟩ wr := by
  unfold IsBody at hb
  conv at hb => lhs; whnf
  injection hb with hb
  subst hb
  have i1 : (j : Int) < (s.size : Int) := by omega
  have i0 : (0 : Int) ≤ (j : Int) := by omega
  have e34 : ((x.toNat : Int) == 34) = true := by rw [h34]; rfl
  have htok := tok_text HX.out h34
  have HNB : Hid (Value.ownBlock (.slice A ts.length c) ≠ some wr.heap.size) := fun e => by have := (hown.lt _ e).2; omega
  cases hq : Lx.text (s.data.toList.drop (j + 1)).length.succ (s.data.toList.drop (j + 1)) [] with
  | inl y =>
    have HTX : Hid (∀ W, Calls Tryz.prog 60 #[.string s, .int .i64 j] W (RTextPost s j W (.inl y))) := fun W => by
      have := rtext_any s j W hlt hs _ rfl
      rw [hq] at this
      exact this
    have HBD : Hid (R = .inl y) := HM.out.res.trans (scr_bad HX.out HBL.out H35.out (by rw [htok, hq]))
    obtain ⟨X, hX⟩ : ∃ X : Nat, s.size - y.length = X := ⟨_, rfl⟩
    have HXX := Lib.hid hX
    have HTX' : Hid (∀ W, Calls Tryz.prog 60 #[.string s, .int .i64 j] W fun e w2 => e = .returned (.tuple #[.agg zTok.toArray, .int .i64 0, .int .i64 (X : Int)]) ∧ Below W.heap.size W w2) := fun W => by
      rw [← hX]
      exact HTX.out W
    clear htok hq h34 HTX hX
    have HTX := HTX'
    clear HTX'
    have HZ1 : Hid (∀ W, Below (wr.alloc (.cells zTok.toArray 72)).heap.size (wr.alloc (.cells zTok.toArray 72)) W → Blk W wr.heap.size 72 zTok ∧ W.ownsRow (w.heap.size + 1) 72 4 (.slice A ts.length c) ts.length (toksCells ts) ∧ Blk W w.heap.size 29 [.int .i64 0, .int .i64 0] ∧ Below w.heap.size w W) := fun W hW =>
      ⟨(Blk.new' rfl rfl : Blk (wr.alloc (.cells zTok.toArray 72)) wr.heap.size 72 zTok).below hW (by simp), own_below (hown.alloc _) hW, (HM.out.ft.alloc _).below hW (by simp; omega), (HM.out.bel.alloc HM.out.bel.size _).trans (hW.mono (by simp; omega))⟩
    clear hown
    go_wp2_with (first
      | (go_at_call 57; refine (rletter_s _ _).mono ?_; rintro e w' ⟨rfl, rfl⟩)
      | (go_at_call 58; refine (rdigit_s _ _).mono ?_; rintro e w' ⟨rfl, rfl⟩)
      | (go_at_call 60; refine (HTX.out _).mono ?_; rintro e w2 ⟨rfl, hB2⟩; obtain ⟨hz2, hown2, hft2, hbel2⟩ := HZ1.out w2 hB2)
      | (refine wpList_store_all rfl 72 (.tmp 11) (.tmp 164) rfl wr.heap.size zTok (by rfl) (by rfl) 72 zTok hz2 hdTok (by simp [zTok, Value.oneCell']) rfl ?_; intro w3 hb3 ho3; have hw3 : w2.heap.size ≤ w3.heap.size := Nat.le_of_eq ho3.size.symm; have hw3' : w3.heap.size ≤ w2.heap.size := Nat.le_of_eq ho3.size; have hl2 := hz2.lt; have t0 := hb3.cell 0; have t1 := hb3.cell 1; have t2 := hb3.cell 2; have t3 := hb3.cell 3; simp only [zTok, List.getElem?_cons_zero, List.getElem?_cons_succ] at t0 t1 t2 t3; have hown3 := hown2.kept ho3.grown (.inr HNB.out); have hft3 := ho3.blk hft2 (by omega); have hbel3 := ho3.below hbel2 (by omega) (by omega))
      | (at_builtin; refine wpList_app rfl (.tmp 167) (.tmp 169) _ rfl (w.heap.size + 1) 72 4 40 Tryz.underlying65 eTok (.slice A ts.length c) ts.length (toksCells ts) (by rfl) (by exact hown3.alloc _) (some ⟨w3.heap.size, 0, none⟩) 1 1 [.int .i64 0, .string ByteArray.empty, .int .i64 0, .int .i64 0] (by rfl) (by exact RdS.new w3 _ [.int .i64 0, .string ByteArray.empty, .int .i64 0, .int .i64 0] 4 rfl) (by simp [Value.oneCell']) (by omega) (by omega) (by simp; omega) ?_; intro A2 c2 w4 hown4 hc4 hg4 hat4; obtain ⟨hB4, hf4⟩ := app_keep hown3 (hbel3.alloc hbel3.size _) (hft3.alloc _) hg4; have d0 : w4.cell? ⟨w.heap.size, 0, none⟩ = some (.int .i64 0) := (hf4.cell 0); have d1 : w4.cell? ⟨w.heap.size, 1, none⟩ = some (.int .i64 0) := (hf4.cell 1); have f0 := hf4.frozen 0; have f1 := hf4.frozen 1))
    refine bodyPost_ret (res_tmp_cell rfl _ w.heap.size 29 [.int .i64 9, .int .i64 X] rfl ((hf4.set_ 0 _).set_ 1 _) _ Tryz.underlying29 rfl hd48) rfl ?_
    exact rpost_bad hs HR.out HBD.out HXX.out ((hB4.setCell (Nat.le_refl _) _).setCell (Nat.le_refl _) _)
  | inr p =>
    obtain ⟨b, y⟩ := p
    rw [hq] at htok
    simp only [] at htok
    have hsuf := suffix_at htok
    obtain ⟨X, hX⟩ : ∃ X : Nat, s.size - y.length = X := ⟨_, rfl⟩
    rw [hX] at hsuf
    rw [hsuf] at htok
    have hXs : X ≤ s.size := by omega
    obtain ⟨hjX, hscr⟩ := scr_tok (ts := ts) HN.out HX.out HBL.out H35.out htok hXs
    have HTK := Lib.hid hscr
    have HTX : Hid (∀ W, Calls Tryz.prog 60 #[.string s, .int .i64 j] W fun e w2 => e = .returned (.tuple #[.agg (tokCells ⟨4, b, 0, j⟩).toArray, .int .i64 (X : Int), .int .i64 (-1)]) ∧ Below W.heap.size W w2) := fun W => by
      have := rtext_any s j W hlt hs _ rfl
      rw [hq] at this
      rw [← hX]
      exact this
    clear htok hq h34 hX hsuf hscr
    have HZ1 : Hid (∀ W, Below (wr.alloc (.cells zTok.toArray 72)).heap.size (wr.alloc (.cells zTok.toArray 72)) W → Blk W wr.heap.size 72 zTok ∧ W.ownsRow (w.heap.size + 1) 72 4 (.slice A ts.length c) ts.length (toksCells ts) ∧ Blk W w.heap.size 29 [.int .i64 0, .int .i64 0] ∧ Below w.heap.size w W) := fun W hW =>
      ⟨(Blk.new' rfl rfl : Blk (wr.alloc (.cells zTok.toArray 72)) wr.heap.size 72 zTok).below hW (by simp), own_below (hown.alloc _) hW, (HM.out.ft.alloc _).below hW (by simp; omega), (HM.out.bel.alloc HM.out.bel.size _).trans (hW.mono (by simp; omega))⟩
    clear hown
    go_wp2_with (first
      | (go_at_call 57; refine (rletter_s _ _).mono ?_; rintro e w' ⟨rfl, rfl⟩)
      | (go_at_call 58; refine (rdigit_s _ _).mono ?_; rintro e w' ⟨rfl, rfl⟩)
      | (go_at_call 60; refine (HTX.out _).mono ?_; rintro e w2 ⟨rfl, hB2⟩; obtain ⟨hz2, hown2, hft2, hbel2⟩ := HZ1.out w2 hB2)
      | (refine wpList_store_all rfl 72 (.tmp 11) (.tmp 164) rfl wr.heap.size (tokCells ⟨4, b, 0, j⟩) (by rfl) (by rfl) 72 zTok hz2 hdTok (by simp [tokCells, Value.oneCell']) rfl ?_; intro w3 hb3 ho3; have hw3 : w2.heap.size ≤ w3.heap.size := Nat.le_of_eq ho3.size.symm; have hw3' : w3.heap.size ≤ w2.heap.size := Nat.le_of_eq ho3.size; have hl2 := hz2.lt; have t0 := hb3.cell 0; have t1 := hb3.cell 1; have t2 := hb3.cell 2; have t3 := hb3.cell 3; simp only [tokCells, List.getElem?_cons_zero, List.getElem?_cons_succ] at t0 t1 t2 t3; have hown3 := hown2.kept ho3.grown (.inr HNB.out); have hft3 := ho3.blk hft2 (by omega); have hbel3 := ho3.below hbel2 (by omega) (by omega))
      | (at_builtin; refine wpList_app rfl (.tmp 167) (.tmp 169) _ rfl (w.heap.size + 1) 72 4 40 Tryz.underlying65 eTok (.slice A ts.length c) ts.length (toksCells ts) (by rfl) (by exact hown3.alloc _) (some ⟨w3.heap.size, 0, none⟩) 1 1 [.int .i64 4, .string (bytesOf b), .int .i64 0, .int .i64 j] (by rfl) (by exact RdS.new w3 _ [.int .i64 4, .string (bytesOf b), .int .i64 0, .int .i64 j] 4 rfl) (by simp [Value.oneCell']) (by omega) (by omega) (by simp; omega) ?_; intro A2 c2 w4 hown4 hc4 hg4 hat4; obtain ⟨hB4, hf4⟩ := app_keep hown3 (hbel3.alloc hbel3.size _) (hft3.alloc _) hg4; have d0 : w4.cell? ⟨w.heap.size, 0, none⟩ = some (.int .i64 0) := (hf4.cell 0); have d1 : w4.cell? ⟨w.heap.size, 1, none⟩ = some (.int .i64 0) := (hf4.cell 1); have f0 := hf4.frozen 0; have f1 := hf4.frozen 1))
    clear d0 d1 f0 f1
    refine Handed.intro (s.size - X) ?_ (hJ _ _ _ ⟨X, ts ++ [⟨4, b, 0, j⟩], A2, c2, rfl, ⟨by rw [toksCells_snoc, List.length_append]; exact hown4, hf4, hB4, hXs, by rw [List.length_append]; simp; omega, HM.out.res.trans HTK.out⟩, rfl, rfl, rfl, rfl, by rw [List.length_append]; rfl, by show Value.int _ _ = _; first | rfl | go_num⟩)
    have := HGK.out; omega
end Go.Proofs.YtafjkbbiaopemaaGreatDoor
namespace Go.Proofs.YtafjkbbiaopemaaGreatDoor
open Go.RowKit
set_option maxRecDepth 100000 in
set_option maxHeartbeats 4000000 in
theorem case_letter (body : Code) (hb : IsBody body) (s : ByteArray) (w wr : World) (R : Sum (List UInt8) (List Lx.Tok)) (hs : s.size ≤ 8000) (HR : Hid (R = Lx.scanF s.size (s.size + 1) s.data.toList [])) (HN : Hid (s.data.toList.length = s.size))
    (gk j : Nat) (ts : List Lx.Tok) (A : Option Addr) (c : Nat) (u : Nat → Value) (J : Nat → Act → World → Prop) (K K1 : Act → World → Prop) (hJ : ∀ k a' w', RInv w s R k a' w' → J k a' w') (hK : ∀ a' w', Handed J gk a' w' → K a' w')
    (HGK : Hid (gk = s.size - j)) (HM : Hid (RMid w s R j ts A c wr)) (hle : j ≤ s.size) (hfew : ts.length ≤ j) (hgl : w.heap.size < wr.heap.size) (hlt : j < s.size) (x : UInt8) (hxx : s[j] = x) (HX : Hid (s.data.toList[j]? = some x)) (HBL : Hid (Lx.blank x = false)) (b1 : ((x.toNat : Int) == 32) = false) (b2 : ((x.toNat : Int) == 9) = false) (b3 : ((x.toNat : Int) == 10) = false) (e35 : ((x.toNat : Int) == 35) = false) (H35 : Hid (x ≠ 35)) (hown : wr.ownsRow (w.heap.size + 1) 72 4 (.slice A ts.length c) ts.length (toksCells ts)) (hl : Lx.letter x = true) :
    body.wp Tryz.prog (Exit.then K (Exit.inBlock 0 (Exit.then K1 (bodyPost Tryz.prog Tryz.f25 (ScanPost w (Lx.scan s.data.toList)))))) ⟨#[.string s, u 1, u 2, .pointer (some ⟨w.heap.size, 0, none⟩), .slice A ts.length c, .int .i64 j, u 6, u 7, u 8, u 9, u 10, u 11, u 12, u 13, u 14, u 15, u 16, u 17, u 18, u 19, u 20, u 21, u 22, u 23, u 24, u 25, u 26, u 27, u 28, u 29, u 30, u 31, u 32, u 33, u 34, u 35, u 36, u 37, u 38, u 39, u 40, u 41, u 42, u 43, u 44, u 45, u 46, u 47, u 48, u 49, u 50, u 51, u 52, u 53, u 54, u 55, u 56, u 57, u 58, u 59, u 60, u 61, u 62, u 63, u 64, u 65, u 66, u 67, u 68, u 69, u 70, u 71, u 72, u 73, u 74, u 75, u 76, u 77, u 78, u 79, u 80, u 81, u 82, u 83, u 84, u 85, u 86, u 87, u 88, u 89, u 90, u 91, u 92, u 93, u 94, u 95, u 96, u 97, u 98, u 99, u 100, u 101, u 102, u 103, u 104, u 105, u 106, u 107, u 108, u 109, u 110, u 111, u 112, u 113, u 114, u 115, u 116, u 117, u 118, u 119, u 120, u 121, u 122, u 123, u 124, u 125, u 126, u 127, u 128, u 129, u 130, u 131, u 132, u 133, u 134, u 135, u 136, u 137, u 138, u 139, u 140, u 141, u 142, u 143, u 144, u 145, u 146, u 147, u 148, u 149, u 150, u 151, u 152, u 153, u 154, u 155, u 156, u 157, u 158, u 159, u 160, u 161, u 162, u 163, u 164, u 165, u 166, u 167, u 168, u 169, u 170, u 171, u 172, u 173, u 174, u 175, u 176, u 177, u 178, u 179, u 180, u 181, u 182, u 183, u 184, u 185, u 186, u 187, u 188, u 189, u 190, u 191, u 192, u 193, u 194, u 195, u 196], []⟩ wr := by
  unfold IsBody at hb
  conv at hb => lhs; whnf
  injection hb with hb
  subst hb
  have i1 : (j : Int) < (s.size : Int) := by omega
  have i0 : (0 : Int) ≤ (j : Int) := by omega
  obtain ⟨t, ht⟩ : ∃ t, t = (s.data.toList.drop j).takeWhile Lx.alnum := ⟨_, rfl⟩
  obtain ⟨E, hE⟩ : ∃ E, E = j + t.length := ⟨_, rfl⟩
  have htok := tok_letter HX.out hl
  rw [← ht, ← hE] at htok
  have hEs : E ≤ s.size := by have := run_le (p := Lx.alnum) (l := s.data.toList) (i := j) (by rw [HN.out]; omega); rw [HN.out, ← ht, ← hE] at this; exact this
  have hjE : j ≤ E := by omega
  have hext : s.extract j E = bytesOf t := by rw [extract_eq, show E - j = t.length from by omega, ht, take_run]
  have HTL : Hid (E - j = t.length) := by show _ = _; omega
  have HEE : Hid (E = j + ((s.data.toList.drop j).takeWhile Lx.alnum).length) := by show _ = _; rw [hE, ht]
  have HTOKEN := Lib.hid htok
  clear htok ht hE
  go_wp2_with (go_at_call 57; refine (rletter_s _ _).mono ?_; rintro e w' ⟨rfl, rfl⟩)
  go_loop [7] (fun v => ∃ k : Nat, j ≤ k ∧ k ≤ s.size ∧ v = .int .i64 k ∧ Hid (k + ((s.data.toList.drop k).takeWhile Lx.alnum).length = E)) (fun v => s.size - (intOf v).toNat)
  case atStart => exact ⟨j, Nat.le_refl _, by omega, rfl, HEE.out.symm⟩
  case round =>
    obtain ⟨k, hjk, hk, rfl, HK⟩ := hrel
    have hcases : (k < s.size ∧ ∃ y, s.data.toList[k]? = some y ∧ Lx.alnum y = true) ∨ (k = E ∧ (s.size ≤ k ∨ ∃ y, s.data.toList[k]? = some y ∧ Lx.alnum y = false)) := by
      rcases Nat.lt_or_ge k s.size with h | h
      · have hy := str_at s k h
        by_cases hp : Lx.alnum s[k] = true
        · exact .inl ⟨h, _, hy, hp⟩
        · have hp' : Lx.alnum s[k] = false := by simpa using hp
          refine .inr ⟨?_, .inr ⟨_, hy, hp'⟩⟩
          have := HK.out
          rw [run_stop hy hp'] at this
          omega
      · refine .inr ⟨?_, .inl h⟩
        have := HK.out
        rw [run_end (by rw [HN.out]; exact h)] at this
        omega
    rcases hcases with ⟨hlt2, y, hy, hp⟩ | ⟨hkE, hout⟩
    · have j1 : (k : Int) < (s.size : Int) := by omega
      have j0 : (0 : Int) ≤ (k : Int) := by omega
      have HST := Lib.hid (run_step hy hp)
      have hyy : s[k] = y := by have := str_at s k hlt2; rw [hy] at this; injection this with this; exact this.symm
      have hcase : Lx.letter y = true ∨ (Lx.letter y = false ∧ Lx.digit y = true) := by
        unfold Lx.alnum at hp; revert hp; cases Lx.letter y <;> cases Lx.digit y <;> simp
      clear hy hp
      rcases hcase with a1 | ⟨a1, a2⟩
      all_goals
        go_wp2_with (first | (go_at_call 57; refine (rletter_s _ _).mono ?_; rintro e w' ⟨rfl, rfl⟩) | (go_at_call 58; refine (rdigit_s _ _).mono ?_; rintro e w' ⟨rfl, rfl⟩))
        go_round
        case rel => exact ⟨k + 1, by omega, by omega, by go_num, by show _ = _; rw [← HK.out, HST.out]; omega⟩
        case measure => simp [intOf]; omega
    · have hcase : s.size ≤ k ∨ (∃ h : k < s.size, Lx.letter s[k] = false ∧ Lx.digit s[k] = false) := by
        rcases hout with h | ⟨y, hy, hp⟩
        · exact .inl h
        · have hk' : k < s.size := by have := (List.getElem?_eq_some_iff.1 hy).1; rw [HN.out] at this; exact this
          have : s[k] = y := by have := str_at s k hk'; rw [hy] at this; injection this with this; exact this.symm
          refine .inr ⟨hk', ?_⟩
          rw [this]
          unfold Lx.alnum at hp
          revert hp
          cases Lx.letter y <;> cases Lx.digit y <;> simp
      clear hout HK
      subst hkE
      by_cases h16 : t.length ≤ 16
      · have e16 : decide ((16 : Int) < (k : Int) - (j : Int)) = false := by have := HTL.out; simp; omega
        have HTOK : Hid (∀ K : Nat, K = (if Lx.reserved t = true then 2 else 1) → j < k ∧ scr s.data.toList s.size j ts = scr s.data.toList s.size k (ts ++ [⟨K, t, 0, j⟩])) := fun K hK =>
          scr_tok HN.out HX.out HBL.out H35.out (by rw [HTOKEN.out, if_neg (by omega), ← hK]) (by omega)
        have hjk' : j < k := (HTOK.out _ rfl).1
        cases hres : Lx.reserved t with
        | true =>
          have HTK := Lib.hid (HTOK.out 2 (by rw [hres]; rfl)).2
          rcases hcase with h | ⟨h, a1, a2⟩
          all_goals
            go_wp2_with (first | (go_at_call 57; refine (rletter_s _ _).mono ?_; rintro e w' ⟨rfl, rfl⟩) | (go_at_call 58; refine (rdigit_s _ _).mono ?_; rintro e w' ⟨rfl, rfl⟩) | (go_at_call 59; refine (rres_s t _).mono ?_; rintro e w' ⟨rfl, rfl⟩) | (at_builtin; refine wpList_app rfl (.tmp 84) (.tmp 92) _ rfl (w.heap.size + 1) 72 4 40 Tryz.underlying65 eTok (.slice A ts.length c) ts.length (toksCells ts) (by rfl) (by exact hown.alloc _) (some ⟨wr.heap.size, 0, none⟩) 1 1 [.int .i64 2, .string (bytesOf t), .int .i64 0, .int .i64 j] (by rfl) (by exact RdS.new wr _ [.int .i64 2, .string (bytesOf t), .int .i64 0, .int .i64 j] 4 rfl) (by simp [Value.oneCell']) (by omega) (by omega) (by simp; omega) ?_; intro A2 c2 w3 hown2 hc2 hg2 hat2; obtain ⟨hB3, hf3⟩ := app_keep hown (HM.out.bel.alloc HM.out.bel.size _) (HM.out.ft.alloc _) hg2; have d0 : w3.cell? ⟨w.heap.size, 0, none⟩ = some (.int .i64 0) := (hf3.cell 0); have d1 : w3.cell? ⟨w.heap.size, 1, none⟩ = some (.int .i64 0) := (hf3.cell 1); have f0 := hf3.frozen 0; have f1 := hf3.frozen 1))
            clear d0 d1 f0 f1
            refine Handed.intro (s.size - (k)) ?_ (hJ _ _ _ ⟨k, ts ++ [⟨2, t, 0, j⟩], A2, c2, rfl, HM.out.app (t := ⟨2, t, 0, j⟩) (HM.out.ft.alloc _) (HM.out.bel.alloc HM.out.bel.size _) (by omega) (by omega) hg2 hown2 HTK.out, rfl, rfl, rfl, rfl, by rw [List.length_append]; rfl, by show Value.int _ _ = _; first | rfl | go_num⟩)
            have := HGK.out; omega
        | false =>
          have HTK := Lib.hid (HTOK.out 1 (by rw [hres]; rfl)).2
          rcases hcase with h | ⟨h, a1, a2⟩
          all_goals
            go_wp2_with (first | (go_at_call 57; refine (rletter_s _ _).mono ?_; rintro e w' ⟨rfl, rfl⟩) | (go_at_call 58; refine (rdigit_s _ _).mono ?_; rintro e w' ⟨rfl, rfl⟩) | (go_at_call 59; refine (rres_s t _).mono ?_; rintro e w' ⟨rfl, rfl⟩) | (at_builtin; refine wpList_app rfl (.tmp 84) (.tmp 92) _ rfl (w.heap.size + 1) 72 4 40 Tryz.underlying65 eTok (.slice A ts.length c) ts.length (toksCells ts) (by rfl) (by exact hown.alloc _) (some ⟨wr.heap.size, 0, none⟩) 1 1 [.int .i64 1, .string (bytesOf t), .int .i64 0, .int .i64 j] (by rfl) (by exact RdS.new wr _ [.int .i64 1, .string (bytesOf t), .int .i64 0, .int .i64 j] 4 rfl) (by simp [Value.oneCell']) (by omega) (by omega) (by simp; omega) ?_; intro A2 c2 w3 hown2 hc2 hg2 hat2; obtain ⟨hB3, hf3⟩ := app_keep hown (HM.out.bel.alloc HM.out.bel.size _) (HM.out.ft.alloc _) hg2; have d0 : w3.cell? ⟨w.heap.size, 0, none⟩ = some (.int .i64 0) := (hf3.cell 0); have d1 : w3.cell? ⟨w.heap.size, 1, none⟩ = some (.int .i64 0) := (hf3.cell 1); have f0 := hf3.frozen 0; have f1 := hf3.frozen 1))
            clear d0 d1 f0 f1
            refine Handed.intro (s.size - (k)) ?_ (hJ _ _ _ ⟨k, ts ++ [⟨1, t, 0, j⟩], A2, c2, rfl, HM.out.app (t := ⟨1, t, 0, j⟩) (HM.out.ft.alloc _) (HM.out.bel.alloc HM.out.bel.size _) (by omega) (by omega) hg2 hown2 HTK.out, rfl, rfl, rfl, rfl, by rw [List.length_append]; rfl, by show Value.int _ _ = _; first | rfl | go_num⟩)
            have := HGK.out; omega
      · have e16 : decide ((16 : Int) < (k : Int) - (j : Int)) = true := by have := HTL.out; simp; omega
        have HBD : Hid (R = .inl (s.data.toList.drop j)) := HM.out.res.trans (scr_bad HX.out HBL.out H35.out (by rw [HTOKEN.out, if_pos (by omega)]))
        cases hres : Lx.reserved t with
        | true =>
          rcases hcase with h | ⟨h, a1, a2⟩
          all_goals
            go_wp2_with (first | (go_at_call 57; refine (rletter_s _ _).mono ?_; rintro e w' ⟨rfl, rfl⟩) | (go_at_call 58; refine (rdigit_s _ _).mono ?_; rintro e w' ⟨rfl, rfl⟩) | (go_at_call 59; refine (rres_s t _).mono ?_; rintro e w' ⟨rfl, rfl⟩) | (at_builtin; refine wpList_app rfl (.tmp 84) (.tmp 92) _ rfl (w.heap.size + 1) 72 4 40 Tryz.underlying65 eTok (.slice A ts.length c) ts.length (toksCells ts) (by rfl) (by exact hown.alloc _) (some ⟨wr.heap.size, 0, none⟩) 1 1 [.int .i64 2, .string (bytesOf t), .int .i64 0, .int .i64 j] (by rfl) (by exact RdS.new wr _ [.int .i64 2, .string (bytesOf t), .int .i64 0, .int .i64 j] 4 rfl) (by simp [Value.oneCell']) (by omega) (by omega) (by simp; omega) ?_; intro A2 c2 w3 hown2 hc2 hg2 hat2; obtain ⟨hB3, hf3⟩ := app_keep hown (HM.out.bel.alloc HM.out.bel.size _) (HM.out.ft.alloc _) hg2; have d0 : w3.cell? ⟨w.heap.size, 0, none⟩ = some (.int .i64 0) := (hf3.cell 0); have d1 : w3.cell? ⟨w.heap.size, 1, none⟩ = some (.int .i64 0) := (hf3.cell 1); have f0 := hf3.frozen 0; have f1 := hf3.frozen 1))
            refine bodyPost_ret (res_tmp_cell rfl _ w.heap.size 29 [.int .i64 9, .int .i64 j] rfl ((hf3.set_ 0 _).set_ 1 _) _ Tryz.underlying29 rfl hd48) rfl ?_
            exact rpost_bad hs HR.out HBD.out (by simp; omega) ((hB3.setCell (Nat.le_refl _) _).setCell (Nat.le_refl _) _)
        | false =>
          rcases hcase with h | ⟨h, a1, a2⟩
          all_goals
            go_wp2_with (first | (go_at_call 57; refine (rletter_s _ _).mono ?_; rintro e w' ⟨rfl, rfl⟩) | (go_at_call 58; refine (rdigit_s _ _).mono ?_; rintro e w' ⟨rfl, rfl⟩) | (go_at_call 59; refine (rres_s t _).mono ?_; rintro e w' ⟨rfl, rfl⟩) | (at_builtin; refine wpList_app rfl (.tmp 84) (.tmp 92) _ rfl (w.heap.size + 1) 72 4 40 Tryz.underlying65 eTok (.slice A ts.length c) ts.length (toksCells ts) (by rfl) (by exact hown.alloc _) (some ⟨wr.heap.size, 0, none⟩) 1 1 [.int .i64 1, .string (bytesOf t), .int .i64 0, .int .i64 j] (by rfl) (by exact RdS.new wr _ [.int .i64 1, .string (bytesOf t), .int .i64 0, .int .i64 j] 4 rfl) (by simp [Value.oneCell']) (by omega) (by omega) (by simp; omega) ?_; intro A2 c2 w3 hown2 hc2 hg2 hat2; obtain ⟨hB3, hf3⟩ := app_keep hown (HM.out.bel.alloc HM.out.bel.size _) (HM.out.ft.alloc _) hg2; have d0 : w3.cell? ⟨w.heap.size, 0, none⟩ = some (.int .i64 0) := (hf3.cell 0); have d1 : w3.cell? ⟨w.heap.size, 1, none⟩ = some (.int .i64 0) := (hf3.cell 1); have f0 := hf3.frozen 0; have f1 := hf3.frozen 1))
            refine bodyPost_ret (res_tmp_cell rfl _ w.heap.size 29 [.int .i64 9, .int .i64 j] rfl ((hf3.set_ 0 _).set_ 1 _) _ Tryz.underlying29 rfl hd48) rfl ?_
            exact rpost_bad hs HR.out HBD.out (by simp; omega) ((hB3.setCell (Nat.le_refl _) _).setCell (Nat.le_refl _) _)
end Go.Proofs.YtafjkbbiaopemaaGreatDoor
