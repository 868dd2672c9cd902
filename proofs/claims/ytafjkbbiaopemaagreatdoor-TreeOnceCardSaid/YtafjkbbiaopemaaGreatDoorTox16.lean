/- Part of the proof: LexU3, LexU. -/
import Derived.Test.YtafjkbbiaopemaaGreatDoorTox14
set_option linter.unusedVariables false
namespace Go.Proofs.YtafjkbbiaopemaaGreatDoor
open Go.RowKit
set_option maxRecDepth 100000 in
set_option maxHeartbeats 8000000 in
theorem case_digit (body : Code) (hb : IsBody body) (s : ByteArray) (w wr : World) (R : Sum (List UInt8) (List Lx.Tok)) (hs : s.size ≤ 8000) (HR : Hid (R = Lx.scanF s.size (s.size + 1) s.data.toList [])) (HN : Hid (s.data.toList.length = s.size))
    (gk j : Nat) (ts : List Lx.Tok) (A : Option Addr) (c : Nat) (u : Nat → Value) (J : Nat → Act → World → Prop) (K K1 : Act → World → Prop) (hJ : ∀ k a' w', RInv w s R k a' w' → J k a' w') (hK : ∀ a' w', Handed J gk a' w' → K a' w')
    (HGK : Hid (gk = s.size - j)) (HM : Hid (RMid w s R j ts A c wr)) (hle : j ≤ s.size) (hfew : ts.length ≤ j) (hgl : w.heap.size < wr.heap.size) (hlt : j < s.size) (x : UInt8) (hxx : s[j] = x) (HX : Hid (s.data.toList[j]? = some x)) (HBL : Hid (Lx.blank x = false)) (b1 : ((x.toNat : Int) == 32) = false) (b2 : ((x.toNat : Int) == 9) = false) (b3 : ((x.toNat : Int) == 10) = false) (e35 : ((x.toNat : Int) == 35) = false) (H35 : Hid (x ≠ 35)) (hown : wr.ownsRow (w.heap.size + 1) 72 4 (.slice A ts.length c) ts.length (toksCells ts)) (hl : Lx.letter x = false) (hd : Lx.digit x = true) :
    body.wp Tryz.prog (Exit.then K (Exit.inBlock 0 (Exit.then K1 (bodyPost Tryz.prog Tryz.f25 (ScanPost w (Lx.scan s.data.toList)))))) ⟨#[.string s, u 1, u 2, .pointer (some ⟨w.heap.size, 0, none⟩), .slice A ts.length c, .int .i64 j, u 6, u 7, u 8, u 9, u 10, u 11, u 12, u 13, u 14, u 15, u 16, u 17, u 18, u 19, u 20, u 21, u 22, u 23, u 24, u 25, u 26, u 27, u 28, u 29, u 30, u 31, u 32, u 33, u 34, u 35, u 36, u 37, u 38, u 39, u 40, u 41, u 42, u 43, u 44, u 45, u 46, u 47, u 48, u 49, u 50, u 51, u 52, u 53, u 54, u 55, u 56, u 57, u 58, u 59, u 60, u 61, u 62, u 63, u 64, u 65, u 66, u 67, u 68, u 69, u 70, u 71, u 72, u 73, u 74, u 75, u 76, u 77, u 78, u 79, u 80, u 81, u 82, u 83, u 84, u 85, u 86, u 87, u 88, u 89, u 90, u 91, u 92, u 93, u 94, u 95, u 96, u 97, u 98, u 99, u 100, u 101, u 102, u 103, u 104, u 105, u 106, u 107, u 108, u 109, u 110, u 111, u 112, u 113, u 114, u 115, u 116, u 117, u 118, u 119, u 120, u 121, u 122, u 123, u 124, u 125, u 126, u 127, u 128, u 129, u 130, u 131, u 132, u 133, u 134, u 135, u 136, u 137, u 138, u 139, u 140, u 141, u 142, u 143, u 144, u 145, u 146, u 147, u 148, u 149, u 150, u 151, u 152, u 153, u 154, u 155, u 156, u 157, u 158, u 159, u 160, u 161, u 162, u 163, u 164, u 165, u 166, u 167, u 168, u 169, u 170, u 171, u 172, u 173, u 174, u 175, u 176, u 177, u 178, u 179, u 180, u 181, u 182, u 183, u 184, u 185, u 186, u 187, u 188, u 189, u 190, u 191, u 192, u 193, u 194, u 195, u 196], []⟩ wr := by
  unfold IsBody at hb
  conv at hb => lhs; whnf
  injection hb with hb
  subst hb
  have i1 : (j : Int) < (s.size : Int) := by omega
  have i0 : (0 : Int) ≤ (j : Int) := by omega
  obtain ⟨t, ht⟩ : ∃ t, t = (s.data.toList.drop j).takeWhile Lx.digit := ⟨_, rfl⟩
  obtain ⟨E, hE⟩ : ∃ E, E = j + t.length := ⟨_, rfl⟩
  have htok := tok_digit HX.out hl hd
  rw [← ht, ← hE, head_drop] at htok
  have hEs : E ≤ s.size := by have := run_le (p := Lx.digit) (l := s.data.toList) (i := j) (by rw [HN.out]; omega); rw [HN.out, ← ht, ← hE] at this; exact this
  have hjE : j < E := by
    have : t ≠ [] := by rw [ht, drop_cons HX.out, List.takeWhile_cons_of_pos hd]; simp
    have := List.length_pos_iff.2 this
    omega
  have hext : s.extract j E = bytesOf t := by rw [extract_eq, show E - j = t.length from by omega, ht, take_run]
  have HTL : Hid (E - j = t.length) := by show _ = _; omega
  have HEE : Hid (E = j + ((s.data.toList.drop j).takeWhile Lx.digit).length) := by show _ = _; rw [hE, ht]
  have HTT : Hid (t = (s.data.toList.drop j).take (E - j)) := by show _ = _; rw [show E - j = t.length from by omega, ht, take_run]
  have HTOKEN := Lib.hid htok
  clear htok ht hE
  go_wp2_with (first | (go_at_call 57; refine (rletter_s _ _).mono ?_; rintro e w' ⟨rfl, rfl⟩) | (go_at_call 58; refine (rdigit_s _ _).mono ?_; rintro e w' ⟨rfl, rfl⟩))
  go_loop [7, 10] (fun v u => ∃ k N : Nat, j ≤ k ∧ k ≤ s.size ∧ v = .int .i64 k ∧ u = .int .i64 N ∧ N < 1000000000 ∧ Hid (k + ((s.data.toList.drop k).takeWhile Lx.digit).length = E) ∧ Hid (N = Lx.numOf ((s.data.toList.drop j).take (min (k - j) 9))) ∧ Hid (∀ c ∈ (s.data.toList.drop j).take (k - j), Lx.digit c = true)) (fun v _ => s.size - (intOf v).toNat)
  case atStart => exact ⟨j, 0, Nat.le_refl _, by omega, rfl, rfl, by omega, HEE.out.symm, by show _ = _; simp [Lx.numOf], fun c hc => by simp at hc⟩
  case round =>
    obtain ⟨k, N, hjk, hk, rfl, rfl, hN9, HK, HNN, HDG⟩ := hrel
    have hcases : (k < s.size ∧ ∃ y, s.data.toList[k]? = some y ∧ Lx.digit y = true) ∨ (k = E ∧ (s.size ≤ k ∨ ∃ y, s.data.toList[k]? = some y ∧ Lx.digit y = false)) := by
      rcases Nat.lt_or_ge k s.size with h | h
      · have hy := str_at s k h
        by_cases hp : Lx.digit s[k] = true
        · exact .inl ⟨h, _, hy, hp⟩
        · have hp' : Lx.digit s[k] = false := by simpa using hp
          refine .inr ⟨?_, .inr ⟨_, hy, hp'⟩⟩
          have := HK.out
          rw [run_stop hy hp'] at this
          omega
      · refine .inr ⟨?_, .inl h⟩
        have := HK.out
        rw [run_end (by rw [HN.out]; exact h)] at this
        omega
    rcases hcases with ⟨hlt2, y, hy, hp⟩ | ⟨hkE, hout⟩
    · have j1 : (k : Int) < (s.size : Int) := by omega
      have j0 : (0 : Int) ≤ (k : Int) := by omega
      have HST := Lib.hid (run_step hy hp)
      have hyy : s[k] = y := by have := str_at s k hlt2; rw [hy] at this; injection this with this; exact this.symm
      have hyd : (48 : Int) ≤ (y.toNat : Int) ∧ (y.toNat : Int) ≤ 57 := by have := digit_eq y; rw [hp] at this; simpa using this.symm
      obtain ⟨y1, y2⟩ := hyd
      have hyj : (s.data.toList.drop j)[k - j]? = some y := by rw [List.getElem?_drop, show j + (k - j) = k from by omega]; exact hy
      have HDG' : Hid (∀ c ∈ (s.data.toList.drop j).take (k + 1 - j), Lx.digit c = true) := fun c hc => by
        rw [show k + 1 - j = k - j + 1 from by omega, List.take_add_one, hyj] at hc
        rcases List.mem_append.1 hc with h | h
        · exact HDG.out c h
        · simp at h; rw [h]; exact hp
      by_cases h9 : k - j < 9
      · have e9 : decide ((k : Int) - (j : Int) < 9) = true := by simp; omega
        have HNS := Lib.hid (numOf_snoc _ _ _ hyj)
        have HNB : Hid (10 * N + (y.toNat - 48) < 1000000000) := by
          show _ < _
          have h1 := numOf_lt _ HDG'.out
          have h2 : ((s.data.toList.drop j).take (k + 1 - j)).length ≤ 9 := by rw [List.length_take]; omega
          have h3 := Nat.pow_le_pow_right (n := 10) (by omega) h2
          rw [show k + 1 - j = k - j + 1 from by omega, HNS.out] at h1
          have h4 := HNN.out
          rw [show min (k - j) 9 = k - j from by omega] at h4
          rw [← h4] at h1
          rw [show k + 1 - j = k - j + 1 from by omega] at h3
          omega
        have HNN' : Hid (10 * N + (y.toNat - 48) = Lx.numOf ((s.data.toList.drop j).take (min (k + 1 - j) 9))) := by
          show _ = _
          rw [show min (k + 1 - j) 9 = k - j + 1 from by omega, HNS.out, HNN.out, show min (k - j) 9 = k - j from by omega]
        clear hy hyj
        go_wp2_with (first | (go_at_call 57; refine (rletter_s _ _).mono ?_; rintro e w' ⟨rfl, rfl⟩) | (go_at_call 58; refine (rdigit_s _ _).mono ?_; rintro e w' ⟨rfl, rfl⟩))
        go_round
        case rel => exact ⟨k + 1, 10 * N + (y.toNat - 48), by omega, by omega, by go_num, by first | go_num | exact congrArg (Value.int .i64) (by omega), HNB.out, by show _ = _; rw [← HK.out, HST.out]; omega, HNN'.out, HDG'.out⟩
        case measure => simp [intOf]; omega
      · have e9 : decide ((k : Int) - (j : Int) < 9) = false := by simp; omega
        have HNN' : Hid (N = Lx.numOf ((s.data.toList.drop j).take (min (k + 1 - j) 9))) := by
          show _ = _
          rw [show min (k + 1 - j) 9 = min (k - j) 9 from by omega, HNN.out]
        clear hy hyj
        go_wp2_with (first | (go_at_call 57; refine (rletter_s _ _).mono ?_; rintro e w' ⟨rfl, rfl⟩) | (go_at_call 58; refine (rdigit_s _ _).mono ?_; rintro e w' ⟨rfl, rfl⟩))
        go_round
        case rel => exact ⟨k + 1, N, by omega, by omega, by go_num, rfl, hN9, by show _ = _; rw [← HK.out, HST.out]; omega, HNN'.out, HDG'.out⟩
        case measure => simp [intOf]; omega
    · have hcase : s.size ≤ k ∨ (∃ h : k < s.size, Lx.digit s[k] = false) := by
        rcases hout with h | ⟨y, hy, hp⟩
        · exact .inl h
        · have hk' : k < s.size := by have := (List.getElem?_eq_some_iff.1 hy).1; rw [HN.out] at this; exact this
          have : s[k] = y := by have := str_at s k hk'; rw [hy] at this; injection this with this; exact this.symm
          exact .inr ⟨hk', by rw [this]; exact hp⟩
      clear hout HK HDG
      subst hkE
      have hc4 : (decide ((9 : Int) < (k : Int) - (j : Int)) = true ∨ (decide ((9 : Int) < (k : Int) - (j : Int)) = false ∧ decide ((1 : Int) < (k : Int) - (j : Int)) = true ∧ ((x.toNat : Int) == 48) = true)) ∧ Hid ((decide (t.length > 9) || (decide (t.length > 1) && x == 48)) = true) ∨
          (decide ((9 : Int) < (k : Int) - (j : Int)) = false ∧ decide ((1 : Int) < (k : Int) - (j : Int)) = false ∨ (decide ((9 : Int) < (k : Int) - (j : Int)) = false ∧ decide ((1 : Int) < (k : Int) - (j : Int)) = true ∧ ((x.toNat : Int) == 48) = false)) ∧ Hid ((decide (t.length > 9) || (decide (t.length > 1) && x == 48)) = false) ∧ Hid (N = Lx.numOf t) := by
        have hTL := HTL.out
        by_cases h9 : t.length > 9
        · exact .inl ⟨.inl (by simp; omega), by show _ = _; simp [h9]⟩
        · have e9 : decide ((9 : Int) < (k : Int) - (j : Int)) = false := by simp; omega
          have hNt : N = Lx.numOf t := by rw [HNN.out, HTT.out, show min (k - j) 9 = k - j from by omega]
          by_cases h1 : t.length > 1
          · have e1 : decide ((1 : Int) < (k : Int) - (j : Int)) = true := by simp; omega
            by_cases h48 : x = 48
            · exact .inl ⟨.inr ⟨e9, e1, by rw [h48]; rfl⟩, by show _ = _; simp [h9, h1, h48]⟩
            · exact .inr ⟨.inr ⟨e9, e1, byte_ne (k := 48) h48⟩, by show _ = _; simp [h9, h48], hNt⟩
          · exact .inr ⟨.inl ⟨e9, by simp; omega⟩, by show _ = _; simp [h9, h1], hNt⟩
      clear HNN
      rcases hc4 with ⟨hc, HC⟩ | ⟨hc, HC, HNT⟩
      · have HBD : Hid (R = .inl (s.data.toList.drop j)) := HM.out.res.trans (scr_bad HX.out HBL.out H35.out (by rw [HTOKEN.out, HC.out]; rfl))
        rcases hc with a1 | ⟨a1, a2, a3⟩ <;> rcases hcase with h | ⟨h, b⟩
        all_goals
          go_wp2_with (first | (go_at_call 57; refine (rletter_s _ _).mono ?_; rintro e w' ⟨rfl, rfl⟩) | (go_at_call 58; refine (rdigit_s _ _).mono ?_; rintro e w' ⟨rfl, rfl⟩) | (at_builtin; refine wpList_app rfl (.tmp 147) (.tmp 155) _ rfl (w.heap.size + 1) 72 4 40 Tryz.underlying65 eTok (.slice A ts.length c) ts.length (toksCells ts) (by rfl) (by exact hown.alloc _) (some ⟨wr.heap.size, 0, none⟩) 1 1 [.int .i64 3, .string (bytesOf t), .int .i64 N, .int .i64 j] (by rfl) (by exact RdS.new wr _ [.int .i64 3, .string (bytesOf t), .int .i64 N, .int .i64 j] 4 rfl) (by simp [Value.oneCell']) (by omega) (by omega) (by simp; omega) ?_; intro A2 c2 w3 hown2 hc2 hg2 hat2; obtain ⟨hB3, hf3⟩ := app_keep hown (HM.out.bel.alloc HM.out.bel.size _) (HM.out.ft.alloc _) hg2; have d0 : w3.cell? ⟨w.heap.size, 0, none⟩ = some (.int .i64 0) := (hf3.cell 0); have d1 : w3.cell? ⟨w.heap.size, 1, none⟩ = some (.int .i64 0) := (hf3.cell 1); have f0 := hf3.frozen 0; have f1 := hf3.frozen 1))
          refine bodyPost_ret (res_tmp_cell rfl _ w.heap.size 29 [.int .i64 9, .int .i64 j] rfl ((hf3.set_ 0 _).set_ 1 _) _ Tryz.underlying29 rfl hd48) rfl ?_
          exact rpost_bad hs HR.out HBD.out (by simp; omega) ((hB3.setCell (Nat.le_refl _) _).setCell (Nat.le_refl _) _)
      · by_cases hlet : ∃ h : k < s.size, Lx.letter s[k] = true
        · obtain ⟨h, hle2⟩ := hlet
          have j1 : (k : Int) < (s.size : Int) := by omega
          have j0 : (0 : Int) ≤ (k : Int) := by omega
          have hy := str_at s k h
          have HBD : Hid (R = .inl (s.data.toList.drop k)) := HM.out.res.trans (scr_bad HX.out HBL.out H35.out (by rw [HTOKEN.out, HC.out, hy]; simp [hle2]))
          have hdg : Lx.digit s[k] = false := by
            rcases hcase with h' | ⟨_, b⟩
            · omega
            · exact b
          clear hcase hy
          rcases hc with ⟨a1, a2⟩ | ⟨a1, a2, a3⟩
          all_goals
            go_wp2_with (first | (go_at_call 57; refine (rletter_s _ _).mono ?_; rintro e w' ⟨rfl, rfl⟩) | (go_at_call 58; refine (rdigit_s _ _).mono ?_; rintro e w' ⟨rfl, rfl⟩) | (at_builtin; refine wpList_app rfl (.tmp 147) (.tmp 155) _ rfl (w.heap.size + 1) 72 4 40 Tryz.underlying65 eTok (.slice A ts.length c) ts.length (toksCells ts) (by rfl) (by exact hown.alloc _) (some ⟨wr.heap.size, 0, none⟩) 1 1 [.int .i64 3, .string (bytesOf t), .int .i64 N, .int .i64 j] (by rfl) (by exact RdS.new wr _ [.int .i64 3, .string (bytesOf t), .int .i64 N, .int .i64 j] 4 rfl) (by simp [Value.oneCell']) (by omega) (by omega) (by simp; omega) ?_; intro A2 c2 w3 hown2 hc2 hg2 hat2; obtain ⟨hB3, hf3⟩ := app_keep hown (HM.out.bel.alloc HM.out.bel.size _) (HM.out.ft.alloc _) hg2; have d0 : w3.cell? ⟨w.heap.size, 0, none⟩ = some (.int .i64 0) := (hf3.cell 0); have d1 : w3.cell? ⟨w.heap.size, 1, none⟩ = some (.int .i64 0) := (hf3.cell 1); have f0 := hf3.frozen 0; have f1 := hf3.frozen 1))
            refine bodyPost_ret (res_tmp_cell rfl _ w.heap.size 29 [.int .i64 9, .int .i64 k] rfl ((hf3.set_ 0 _).set_ 1 _) _ Tryz.underlying29 rfl hd48) rfl ?_
            exact rpost_bad hs HR.out HBD.out (by simp; omega) ((hB3.setCell (Nat.le_refl _) _).setCell (Nat.le_refl _) _)
        · have HTK : Hid (scr s.data.toList s.size j ts = scr s.data.toList s.size k (ts ++ [⟨3, t, N, j⟩])) := (scr_tok HN.out HX.out HBL.out H35.out (by
            rw [HTOKEN.out, HC.out, HNT.out]
            have : Option.any Lx.letter s.data.toList[k]? = false := by
              rcases Nat.lt_or_ge k s.size with h | h
              · rw [str_at s k h]
                simp only [Option.any_some]
                cases hq : Lx.letter s[k] with
                | false => rfl
                | true => exact absurd ⟨h, hq⟩ hlet
              · rw [List.getElem?_eq_none (by rw [HN.out]; exact h)]; rfl
            rw [this]; rfl) (by omega)).2
          have hcase' : s.size ≤ k ∨ (∃ h : k < s.size, Lx.digit s[k] = false ∧ Lx.letter s[k] = false) := by
            rcases hcase with h | ⟨h, b⟩
            · exact .inl h
            · exact .inr ⟨h, b, by cases hq : Lx.letter s[k] with
                | false => rfl
                | true => exact absurd ⟨h, hq⟩ hlet⟩
          clear hcase hlet
          rcases hc with ⟨a1, a2⟩ | ⟨a1, a2, a3⟩ <;> rcases hcase' with h | ⟨h, b, b'⟩
          all_goals
            go_wp2_with (first | (go_at_call 57; refine (rletter_s _ _).mono ?_; rintro e w' ⟨rfl, rfl⟩) | (go_at_call 58; refine (rdigit_s _ _).mono ?_; rintro e w' ⟨rfl, rfl⟩) | (at_builtin; refine wpList_app rfl (.tmp 147) (.tmp 155) _ rfl (w.heap.size + 1) 72 4 40 Tryz.underlying65 eTok (.slice A ts.length c) ts.length (toksCells ts) (by rfl) (by exact hown.alloc _) (some ⟨wr.heap.size, 0, none⟩) 1 1 [.int .i64 3, .string (bytesOf t), .int .i64 N, .int .i64 j] (by rfl) (by exact RdS.new wr _ [.int .i64 3, .string (bytesOf t), .int .i64 N, .int .i64 j] 4 rfl) (by simp [Value.oneCell']) (by omega) (by omega) (by simp; omega) ?_; intro A2 c2 w3 hown2 hc2 hg2 hat2; obtain ⟨hB3, hf3⟩ := app_keep hown (HM.out.bel.alloc HM.out.bel.size _) (HM.out.ft.alloc _) hg2; have d0 : w3.cell? ⟨w.heap.size, 0, none⟩ = some (.int .i64 0) := (hf3.cell 0); have d1 : w3.cell? ⟨w.heap.size, 1, none⟩ = some (.int .i64 0) := (hf3.cell 1); have f0 := hf3.frozen 0; have f1 := hf3.frozen 1))
            clear d0 d1 f0 f1
            refine Handed.intro (s.size - (k)) ?_ (hJ _ _ _ ⟨k, ts ++ [⟨3, t, N, j⟩], A2, c2, rfl, HM.out.app (t := ⟨3, t, N, j⟩) (HM.out.ft.alloc _) (HM.out.bel.alloc HM.out.bel.size _) (by omega) (by omega) hg2 hown2 HTK.out, rfl, rfl, rfl, rfl, by rw [List.length_append]; rfl, by show Value.int _ _ = _; first | rfl | go_num⟩)
            have := HGK.out; omega
end Go.Proofs.YtafjkbbiaopemaaGreatDoor
namespace Go.Proofs.YtafjkbbiaopemaaGreatDoor
open Go.RowKit
set_option maxRecDepth 100000 in
set_option maxHeartbeats 8000000 in
theorem rscan_small (s : ByteArray) (w : World) (hs : s.size ≤ 8000) : Calls Tryz.prog 25 #[.string s] w (ScanPost w (Lx.scan s.data.toList)) := by
  obtain ⟨R, hR⟩ : ∃ R, R = Lx.scanF s.size (s.size + 1) s.data.toList [] := ⟨_, rfl⟩
  have HR := Lib.hid hR
  have e1 : decide ((8000 : Int) < (s.size : Int)) = false := by simp; omega
  clear hR
  have HN : Hid (s.data.toList.length = s.size) := by show _ = _; simp
  go_enter Tryz.func25, Tryz.ntmps25
  go_wp2_with fail
  refine wp_loop_ghost_k (RInv w s R) s.size ⟨0, [], none, 0, rfl, ⟨World.ownsRow_nil _ _ _ _, Blk.new' rfl rfl, (Below.refl _ _).alloc (Nat.le_refl _) _, Nat.zero_le _, Nat.le_refl _, HR.out⟩, rfl, rfl, rfl, rfl, rfl, rfl⟩ ?_
  intro gk a wr hI J K hJ hK
  obtain ⟨j, ts, A, c, hgk, hM, hdf, hsz, h0, h3, h4, h5⟩ := hI
  obtain ⟨tm, df⟩ := a
  obtain ⟨u, hu, htm⟩ := frame197 tm hsz
  simp only at hdf h0 h3 h4 h5
  rw [← hu] at h0 h3 h4 h5
  subst hdf
  rw [h0, h3, h4, h5] at htm
  subst htm
  clear hu hsz h0 h3 h4 h5
  have HGK := Lib.hid hgk
  have HM := Lib.hid hM
  have hle := hM.le
  have hfew := hM.few
  have hgl : w.heap.size < wr.heap.size := hM.ft.lt
  have hown := hM.own
  clear hgk hM
  by_cases hlt : j < s.size
  · have hx := str_at s j hlt
    obtain ⟨x, hxx⟩ : ∃ x, s[j] = x := ⟨_, rfl⟩
    rw [hxx] at hx
    have HX := Lib.hid hx
    by_cases hbl : Lx.blank x = true
    · exact case_blank _ (by unfold IsBody; rfl) s w wr R hs HR HN gk j ts A c u J K _ hJ hK HGK HM hle hfew hgl hlt x hxx HX hbl
    · have hbl' : Lx.blank x = false := by simpa using hbl
      have hnb : ((x.toNat : Int) == 32) = false ∧ ((x.toNat : Int) == 9) = false ∧ ((x.toNat : Int) == 10) = false := by
        refine ⟨byte_ne (k := 32) fun e => ?_, byte_ne (k := 9) fun e => ?_, byte_ne (k := 10) fun e => ?_⟩ <;> (subst e; revert hbl'; decide)
      obtain ⟨b1, b2, b3⟩ := hnb
      have HBL := Lib.hid hbl'
      by_cases h35 : x = 35
      · exact case_com _ (by unfold IsBody; rfl) s w wr R hs HR HN gk j ts A c u J K _ hJ hK HGK HM hle hfew hgl hlt x hxx HX HBL b1 b2 b3 h35
      · have e35 : ((x.toNat : Int) == 35) = false := byte_ne (k := 35) h35
        by_cases hl : Lx.letter x = true
        · exact case_letter _ (by unfold IsBody; rfl) s w wr R hs HR HN gk j ts A c u J K _ hJ hK HGK HM hle hfew hgl hlt x hxx HX HBL b1 b2 b3 e35 h35 hown hl
        · have hl' : Lx.letter x = false := by simpa using hl
          by_cases hd : Lx.digit x = true
          · exact case_digit _ (by unfold IsBody; rfl) s w wr R hs HR HN gk j ts A c u J K _ hJ hK HGK HM hle hfew hgl hlt x hxx HX HBL b1 b2 b3 e35 h35 hown hl' hd
          · have hd' : Lx.digit x = false := by simpa using hd
            by_cases h34 : x = 34
            · exact case_text _ (by unfold IsBody; rfl) s w wr R hs HR HN gk j ts A c u J K _ hJ hK HGK HM hle hfew hgl hlt x hxx HX HBL b1 b2 b3 e35 h35 hown hl' hd' h34
            · exact case_mark _ (by unfold IsBody; rfl) s w wr R hs HR HN gk j ts A c u J K _ hJ hK HGK HM hle hfew hgl hlt x hxx HX HBL b1 b2 b3 e35 h35 hown hl' hd' h34
  · have hge : s.size ≤ j := by omega
    have HE := Lib.hid (HM.out.res.trans (scr_end HN.out hge))
    go_wp2_with (at_builtin; refine wpList_app rfl (.tmp 190) (.tmp 194) _ rfl (w.heap.size + 1) 72 4 40 Tryz.underlying65 eTok (.slice A ts.length c) ts.length (toksCells ts) (by rfl) (by exact hown.alloc _) (some ⟨wr.heap.size, 0, none⟩) 1 1 [.int .i64 6, .string (bytesOf []), .int .i64 0, .int .i64 s.size] (by rfl) (by exact RdS.new wr _ [.int .i64 6, .string (bytesOf []), .int .i64 0, .int .i64 s.size] 4 rfl) (by simp [Value.oneCell']) (by omega) (by omega) (by simp; omega) ?_
                 intro A2 c2 w3 hown2 hc2 hg2 hat2
                 obtain ⟨hB3, hf3⟩ := app_keep hown (HM.out.bel.alloc HM.out.bel.size _) (HM.out.ft.alloc _) hg2
                 have d0 : w3.cell? ⟨w.heap.size, 0, none⟩ = some (.int .i64 0) := by rw [hf3.cell]; rfl
                 have d1 : w3.cell? ⟨w.heap.size, 1, none⟩ = some (.int .i64 0) := by rw [hf3.cell]; rfl
                 have f0 := hf3.frozen 0
                 have f1 := hf3.frozen 1)
    have hsc := scan_inr hs (HR.out.symm.trans HE.out)
    refine bodyPost_ret (res_tmp_cell rfl _ w.heap.size 29 [.int .i64 0, .int .i64 0] rfl ((hf3.set_ 0 _).set_ 1 _) _ Tryz.underlying29 rfl hd48) rfl ?_
    rw [hsc]
    have hlen : (ts ++ [(⟨6, [], 0, s.size⟩ : Lx.Tok)]).length = ts.length + 1 := by simp
    have ho : Only w3 ((w3.setCell ⟨w.heap.size, 0, none⟩ (.int .i64 0)).setCell ⟨w.heap.size, 1, none⟩ (.int .i64 0)) w.heap.size := ((Only.refl w3 w.heap.size).setCell 0 _).setCell 1 _
    have hown4 := own_mono (hown2.kept ho.grown (.inr (own_blk_ne hown2 hf3 (by decide)))) (Nat.le_succ w.heap.size)
    refine ⟨A2, c2, by simp only [hlen]; rfl, by rw [hlen]; exact hc2, by rw [hlen, toksCells_snoc]; exact hown4, ?_⟩
    exact ho.below hB3 (Nat.le_refl _) (Nat.le_of_lt hf3.lt)
theorem rscan_any (s : ByteArray) (w : World) : Calls Tryz.prog 25 #[.string s] w (ScanPost w (Lx.scan s.data.toList)) := by
  by_cases h : s.size ≤ 8000
  · exact rscan_small s w h
  · exact rscan_big s w (by omega)
theorem rscan_is (s : ByteArray) (w : World) {p q n : Nat} {ts : List Lx.Tok} (h : Lx.scan s.data.toList = ((p, q), ts)) (hn : ts.length = n) :
    Calls Tryz.prog 25 #[.string s] w fun e w' => ∃ A c, e = .returned (.tuple #[.slice A n c, .agg #[.int .i64 p, .int .i64 q]]) ∧ n ≤ c ∧ w'.ownsRow w.heap.size 72 4 (.slice A n c) n (toksCells ts) ∧ Below w.heap.size w w' := by
  subst hn
  have := rscan_any s w
  rw [h] at this
  exact this
end Go.Proofs.YtafjkbbiaopemaaGreatDoor
