/- Part of the proof: Hop, Nxt, Sch. -/
import Derived.Test.YtlbnibmcflmohaaGreatPlx28
import Derived.Test.YtlbnibmcflmohaaGreatPlx35
namespace Go.Proofs.YtlbnibmcflmohaaGreat
open Go.RowKit
structure Sp where
  mac : List UInt8
  stream : List UInt8
  pay : List UInt8
  blind : List UInt8
  alpha : List UInt8
  secret : List UInt8
namespace Sp
def bytes (s : Sp) : List UInt8 := s.mac ++ (s.stream ++ (s.pay ++ (s.blind ++ (s.alpha ++ s.secret))))
def cells (s : Sp) : List Value := u8s s.bytes
def ok (s : Sp) : Prop := s.mac.length = 32 ∧ s.stream.length = 32 ∧ s.pay.length = 32 ∧ s.blind.length = 32 ∧ s.alpha.length = 32 ∧ s.secret.length = 32
theorem bytes_len {s : Sp} (h : s.ok) : s.bytes.length = 192 := by obtain ⟨h1, h2, h3, h4, h5, h6⟩ := h; simp [bytes, h1, h2, h3, h4, h5, h6]
theorem cells_len {s : Sp} (h : s.ok) : s.cells.length = 192 := by rw [cells, u8s_length, bytes_len h]
theorem at_mac {s : Sp} (h : s.ok) : (s.bytes.drop 0).take 32 = s.mac := by rw [bytes, List.drop_zero, List.take_left' h.1]
theorem at_stream {s : Sp} (h : s.ok) : (s.bytes.drop 32).take 32 = s.stream := by rw [bytes, List.drop_left' h.1, List.take_left' h.2.1]
theorem at_alpha {s : Sp} (h : s.ok) : (s.bytes.drop 128).take 32 = s.alpha := by
  have e : s.bytes = (s.mac ++ (s.stream ++ (s.pay ++ s.blind))) ++ (s.alpha ++ s.secret) := by simp [bytes]
  rw [e, List.drop_left' (by simp [h.1, h.2.1, h.2.2.1, h.2.2.2.1]), List.take_left' h.2.2.2.2.1]
end Sp
theorem Sp.rd {w : World} {g : Nat} {t : TypeId} {s : Sp} (hb : Blk w g t s.cells) (h : s.ok) (o : Nat) (x : List UInt8) (ho : o + 32 ≤ 192) (hx : (s.bytes.drop o).take 32 = x) : Rd w (some ⟨g, o, none⟩) 32 (u8s x) := by
  have h5 := hb.rd o 32 (by rw [Sp.cells_len h]; exact ho)
  rwa [Sp.cells, u8s_drop, u8s_take, hx] at h5
theorem hd69 : (Tryz.prog.info? 43).map (·.size) = some 192 := by kernel_rfl
def tagOf (mac : List UInt8) (h : List UInt8) : List UInt8 := (Mc.tag mac (h.take 32 ++ (h.drop 48).take 240)).take 16
def fits (s : Sp) (h : List UInt8) : Bool := decide (tagOf s.mac h = (h.drop 32).take 16)
set_option maxRecDepth 100000 in
set_option maxHeartbeats 1000000 in
theorem fits_any (s : Sp) (hs : s.ok) (h : List UInt8) (hh : h.length = 288) (w : World) :
    Calls Tryz.prog 10 #[.agg (u8s h).toArray, .agg s.cells.toArray] w fun e w' => e = .returned (.bool (fits s h)) ∧ Below w.heap.size w w' := by
  have HQ : Hid (∀ (W : World) (gl : Nat), Blk W gl 23 [.slice (some ⟨w.heap.size, 0, none⟩) 32 32, .slice (some ⟨w.heap.size, 48, none⟩) 240 240] → Blk W w.heap.size 37 (u8s h) → Blk W (w.heap.size + 1) 43 s.cells →
      Calls Tryz.prog 25 #[.slice (some ⟨w.heap.size + 1, 0, none⟩) 32 32, .slice (some ⟨w.heap.size, 32, none⟩) 16 16, .slice (some ⟨gl, 0, none⟩) 2 2] W fun e w' => e = .returned (.bool (fits s h)) ∧ Below W.heap.size W w') := fun W gl h1 h2 h3 => by
    have h5 := mcheck_any (some ⟨w.heap.size + 1, 0, none⟩) 32 32 s.mac (some ⟨w.heap.size, 32, none⟩) 16 16 ((h.drop 32).take 16) (some ⟨gl, 0, none⟩) 2 2 [h.take 32, (h.drop 48).take 240] W (Sp.rd h3 hs 0 s.mac (by omega) (Sp.at_mac hs)) (by omega) (by omega)
      (RdB.of_blk h1 ⟨.of_blk h2 0 32 32 _ (by rw [u8s_length, hh]; omega) (by omega) (by rw [u8s_drop, u8s_take]; rfl), .of_blk h2 48 240 240 _ (by rw [u8s_length, hh]; omega) (by omega) (by rw [u8s_drop, u8s_take]), trivial⟩) (by omega)
      (by simp [hh]) (by have h6 := h2.rd 32 16 (by rw [u8s_length, hh]; omega); rwa [u8s_drop, u8s_take] at h6)
    have e : [h.take 32, (h.drop 48).take 240].flatten = h.take 32 ++ (h.drop 48).take 240 := by simp
    rw [e] at h5
    exact h5
  have HF : Hid (fits s h = fits s h) := rfl
  generalize fits s h = F at *
  generalize u8s h = U at *
  generalize s.cells = S at *
  clear hs hh HF
  go_enter Tryz.func10, Tryz.ntmps10
  go_wp2_with fail
  go_region_held3 (fun _ => True) (trivial) ((go_at_call 25; (refine (HQ.out _ _ (by repeat (first | exact Blk.new' (by simp) rfl | apply Blk.drew | apply Blk.alloc)) (by repeat (first | exact Blk.new' (by simp) rfl | apply Blk.drew | apply Blk.alloc)) (by repeat (first | exact Blk.new' (by simp) rfl | apply Blk.drew | apply Blk.alloc))).mono ?_); rintro e w4 ⟨rfl, hB4⟩))
  go_wp2_with fail
  go_ret
  exact ⟨rfl, ((((Below.refl _ w).alloc (Nat.le_refl _) _).alloc (by simp) _).drew.alloc (by simp; omega) _).trans (hB4.mono (by simp; omega))⟩
theorem res_cct {P : Program} {w : World} {fn : Func} {p q u : Tmp} {ty ty' : TypeId} (h : fn.results = #[.cell p ty, .cell q ty', .tmp u]) (tmps : Array Value) (g g' : Nat) (t t' : TypeId) (cs cs' : List Value) (hp : tmps.getD p undef = .pointer (some ⟨g, 0, none⟩)) (hq : tmps.getD q undef = .pointer (some ⟨g', 0, none⟩))
    (hB : Blk w g t cs) (d : TypeDesc) (hu : P.underlying ty = some d) (hd : d.isRow = true) (hi : (P.info? ty).map (·.size) = some cs.length)
    (hB' : Blk w g' t' cs') (d' : TypeDesc) (hu' : P.underlying ty' = some d') (hd' : d'.isRow = true) (hi' : (P.info? ty').map (·.size) = some cs'.length) :
    (results fn tmps).run P w = .ok (.tuple #[.agg cs.toArray, .agg cs'.toArray, tmps.getD u undef]) w := by
  have hp' : tmps[p]?.getD undef = .pointer (some ⟨g, 0, none⟩) := by rw [← hp]; simp
  have hq' : tmps[q]?.getD undef = .pointer (some ⟨g', 0, none⟩) := by rw [← hq]; simp
  simp [results, h, hp', hq', asAddr, run_loadVar_mid w g 0 ty cs d hB.range hu hd hi, run_loadVar_mid w g' 0 ty' cs' d' hB'.range hu' hd' hi']
def plainOf (s : Sp) (h : List UInt8) : List UInt8 := Ch.turn s.stream ((h.drop 48).take 240 ++ List.replicate 48 0)
theorem plainOf_len (s : Sp) {h : List UInt8} (hh : h.length = 288) : (plainOf s h).length = 288 := by rw [plainOf, Ch.turn_len]; simp [hh]
def z288 : List UInt8 := List.replicate 288 0
theorem z288_len : (u8s z288).length = 288 := by rw [u8s_length, z288, List.length_replicate]
theorem build34_z (w : World) : (Instr.build 37 #[]).run Tryz.prog w = .ok (.agg (u8s z288).toArray) w := by rw [build34_0, zc34']; rfl
theorem ldq_69 (v : Value) : Instr.loadAt 43 v = ldAt 43 v := rfl
attribute [local go_sem ↓] ldq_34 ldq_69 ldq_cm
theorem hd_ld {w : World} {g : Nat} {t : TypeId} {C : List Value} (hb : Blk w g t C) (hl : C.length = 288) : (ldAt 37 (.pointer (some ⟨g, 0, none⟩))).run Tryz.prog w = .ok (.agg C.toArray) w :=
  ldAt_run hb _ 0 C (by rw [List.drop_zero, List.take_of_length_le (Nat.le_refl _)]) _ Tryz.underlying37 rfl (by rw [hl]; exact hd34)
theorem sp_ld {w : World} {g : Nat} {t : TypeId} {C : List Value} (hb : Blk w g t C) (hl : C.length = 192) : (ldAt 43 (.pointer (some ⟨g, 0, none⟩))).run Tryz.prog w = .ok (.agg C.toArray) w :=
  ldAt_run hb _ 0 C (by rw [List.drop_zero, List.take_of_length_le (Nat.le_refl _)]) _ Tryz.underlying43 rfl (by rw [hl]; exact hd69)
set_option maxRecDepth 100000 in
set_option maxHeartbeats 2000000 in
theorem open_bad (s : Sp) (hs : s.ok) (h : List UInt8) (hh : h.length = 288) (hf : fits s h = false) (w : World) :
    Calls Tryz.prog 11 #[.agg (u8s h).toArray, .agg s.cells.toArray] w fun e w' => e = .returned (.tuple #[.agg Cm.zero.cells.toArray, .agg (u8s z288).toArray, .int .i64 6]) ∧ Below w.heap.size w w' := by
  have HF := Lib.hid (fun W => fits_any s hs h hh W)
  rw [hf] at HF
  have hsl := Sp.cells_len hs
  have hhl : (u8s h).length = 288 := by rw [u8s_length, hh]
  generalize u8s h = U at *
  generalize s.cells = S at *
  clear hs hh hf
  have hb2 : Blk ((((w.alloc (.cells U.toArray 37)).alloc (.cells S.toArray 43)).alloc (.cells Cm.zero.cells.toArray 50)).alloc (.cells Tryz.zeroCells37 37)) w.heap.size 37 U := (((Blk.new w _ _).alloc _).alloc _).alloc _
  have hb3 : Blk ((((w.alloc (.cells U.toArray 37)).alloc (.cells S.toArray 43)).alloc (.cells Cm.zero.cells.toArray 50)).alloc (.cells Tryz.zeroCells37 37)) (w.heap.size + 1) 43 S := ((Blk.new' (by simp) rfl).alloc _).alloc _
  have hb4 : Blk ((((w.alloc (.cells U.toArray 37)).alloc (.cells S.toArray 43)).alloc (.cells Cm.zero.cells.toArray 50)).alloc (.cells Tryz.zeroCells37 37)) (w.heap.size + 2) 50 Cm.zero.cells := (Blk.new' (by simp) rfl).alloc _
  have hb5 : Blk ((((w.alloc (.cells U.toArray 37)).alloc (.cells S.toArray 43)).alloc (.cells Cm.zero.cells.toArray 50)).alloc (.cells Tryz.zeroCells37 37)) (w.heap.size + 3) 37 (u8s z288) := Blk.new' (by simp) zc34'
  have hE : Below w.heap.size w ((((w.alloc (.cells U.toArray 37)).alloc (.cells S.toArray 43)).alloc (.cells Cm.zero.cells.toArray 50)).alloc (.cells Tryz.zeroCells37 37)) := ((((Below.refl _ w).alloc (Nat.le_refl _) _).alloc (by simp) _).alloc (by simp; omega) _).alloc (by simp; omega) _
  have hl1 : ∀ o1 o2, (ldAt 37 (.pointer (some ⟨w.heap.size, 0, none⟩))).run Tryz.prog ((((w.alloc (.cells U.toArray 37)).alloc (.cells S.toArray 43)).alloc o1).alloc o2) = .ok (.agg U.toArray) ((((w.alloc (.cells U.toArray 37)).alloc (.cells S.toArray 43)).alloc o1).alloc o2) := fun o1 o2 => hd_ld ((((Blk.new w _ _).alloc _).alloc o1).alloc o2) hhl
  have hl2 : ∀ o1 o2, (ldAt 43 (.pointer (some ⟨w.heap.size + 1, 0, none⟩))).run Tryz.prog ((((w.alloc (.cells U.toArray 37)).alloc (.cells S.toArray 43)).alloc o1).alloc o2) = .ok (.agg S.toArray) ((((w.alloc (.cells U.toArray 37)).alloc (.cells S.toArray 43)).alloc o1).alloc o2) := fun o1 o2 => sp_ld (((Blk.new' (by simp) rfl).alloc o1).alloc o2) hsl
  have HB4 := Lib.hid hb4
  have HB5 := Lib.hid hb5
  have HE := Lib.hid hE
  clear hb2 hb3 hb4 hb5 hE hsl hhl
  go_enter Tryz.func11, Tryz.ntmps11
  go_wp2_with (first
    | (go_at_call 10; (with_reducible refine (HF.out _).mono ?_); rintro e w1 ⟨rfl, hB1⟩
       have HE1 := Lib.hid (HE.out.trans (hB1.mono (by simp; omega)))
       have HZ4 := qbl HB4 hB1
       have HZ5 := qbl HB5 hB1
       clear hB1)
    | refine wpList_build rfl 50 [] rfl [] (by rfl) _ (build_cm0 _) ?_
    | refine wpList_build rfl 37 [] rfl [] (by rfl) _ (build34_z _) ?_
    | (refine wpList_store_all rfl 50 (.tmp 4) (.tmp 15) rfl (w.heap.size + 2) Cm.zero.cells (by rfl) (by rfl) 50 _ HZ4.out (by exact hd76c) (Cm.cells_one _) (by exact rfl) ?_; intro w2 hb2 ho2
       have HE2 := Lib.hid (ho2.below HE1.out (by omega) HE1.out.size)
       have HZ42 := Lib.hid hb2
       have HZ52 := Lib.hid (ho2.blk HZ5.out (by omega))
       clear hb2 ho2)
    | (refine wpList_store_all rfl 37 (.tmp 5) (.tmp 16) rfl (w.heap.size + 3) (u8s z288) (by rfl) (by rfl) 37 _ HZ52.out (by rw [z288_len]; exact hd34) (u8s_one _) (by exact rfl) ?_; intro w3 hb3 ho3
       have HE3 := Lib.hid (ho3.below HE2.out (by omega) HE2.out.size)
       have HZ43 := Lib.hid (ho3.blk HZ42.out (by omega))
       have HZ53 := Lib.hid hb3
       clear hb3 ho3))
  exact bodyPost_ret (res_cct rfl _ _ _ _ _ _ _ rfl rfl HZ43.out _ Tryz.underlying50 rfl (by exact hd76c) HZ53.out _ Tryz.underlying37 rfl (by rw [z288_len]; exact hd34)) rfl ⟨rfl, HE3.out⟩
set_option maxRecDepth 100000 in
set_option maxHeartbeats 4000000 in
theorem open_form (s : Sp) (hs : s.ok) (h : List UInt8) (hh : h.length = 288) (hf : fits s h = true) (hd : dce ((plainOf s h).take 32) ≠ 0) (w : World) :
    Calls Tryz.prog 11 #[.agg (u8s h).toArray, .agg s.cells.toArray] w fun e w' => e = .returned (.tuple #[.agg Cm.zero.cells.toArray, .agg (u8s z288).toArray, .int .i64 3]) ∧ Below w.heap.size w w' := by
  have HF := Lib.hid (fun W => fits_any s hs h hh W)
  rw [hf] at HF
  have HT : Hid (∀ (W : World) (gl gz : Nat), Blk W gl 23 [.slice (some ⟨w.heap.size, 48, none⟩) 240 240, .slice (some ⟨gz, 0, none⟩) 48 48] → Blk W w.heap.size 37 (u8s h) → Blk W (w.heap.size + 1) 43 s.cells → Blk W gz 5 (u8s (List.replicate 48 0)) →
      Calls Tryz.prog 21 #[.slice (some ⟨w.heap.size + 1, 32, none⟩) 32 32, .slice (some ⟨gl, 0, none⟩) 2 2] W fun e w' => ∃ g c', e = .returned (.tuple #[.slice (some ⟨g, 0, none⟩) 288 c', .int .i64 0]) ∧ 288 ≤ c' ∧ w'.ownsRow W.heap.size 5 1 (.slice (some ⟨g, 0, none⟩) 288 c') 288 (u8s (plainOf s h)) ∧ Below W.heap.size W w') := fun W gl gz h1 h2 h3 h4 => by
    refine (turn_to (some ⟨w.heap.size + 1, 32, none⟩) 32 s.stream (some ⟨gl, 0, none⟩) 2 2 [(h.drop 48).take 240, List.replicate 48 0] ((h.drop 48).take 240 ++ List.replicate 48 0) 288 W (Sp.rd h3 hs 32 s.stream (by omega) (Sp.at_stream hs))
      (RdB.of_blk h1 ⟨.of_blk h2 48 240 240 _ (by rw [u8s_length, hh]; omega) (by omega) (by rw [u8s_drop, u8s_take]), .of_blk h4 0 48 48 _ (by rw [u8s_length, List.length_replicate]; omega) (by omega) (by rw [List.drop_zero, List.take_of_length_le (by rw [u8s_length, List.length_replicate]; omega)]), trivial⟩) (by omega) (by simp) (by simp [hh]) (by omega)).mono ?_
    rintro e w' ⟨A', c', rfl, hc', ho, hB⟩
    obtain ⟨g, rfl, _⟩ := own_pos ho (by omega)
    exact ⟨g, c', rfl, hc', ho, hB⟩
  have hmk : ∀ W, (Instr.makeSlice 23 (.int .i64 48) (.int .i64 48)).run Tryz.prog W = .ok (.slice (some ⟨W.heap.size, 0, none⟩) 48 48) (W.alloc (.cells (u8s (List.replicate 48 0)).toArray 5)) := fun W => by kernel_rfl
  have hpl := plainOf_len s hh
  have HD : Hid (∀ (W : World) (g c : Nat), 32 ≤ c → Rd W (some ⟨g, 0, none⟩) 288 (u8s (plainOf s h)) → Calls Tryz.prog 26 #[.slice (some ⟨g, 0, none⟩) 32 c] W fun e w' => e = .returned (.tuple #[.agg (if dce ((plainOf s h).take 32) = 0 then (dcm ((plainOf s h).take 32)).cells else Cm.zero.cells).toArray, .int .i64 (dce ((plainOf s h).take 32) : Int)]) ∧ Below W.heap.size W w') := fun W g c hc hr => by
    have h5 := rd_mid hr 0 32 (by omega)
    rw [List.drop_zero, Nat.zero_add] at h5
    exact cdec_any _ c _ W h5 hc
  obtain ⟨R, hR⟩ : ∃ R, R = (if dce ((plainOf s h).take 32) = 0 then (dcm ((plainOf s h).take 32)).cells else Cm.zero.cells) := ⟨_, rfl⟩
  rw [← hR] at HD
  have hpl2 : ((plainOf s h).take 32).length = 32 := by rw [List.length_take, hpl]; rfl
  have HRL : Hid (R.length = 20) := by show _ = _; rw [hR]; split <;> first | exact Cm.cells_len (dcm_ok hpl2) | rfl
  have HR1 : Hid (∀ v ∈ R, v.oneCell' = true) := by show ∀ v ∈ R, _; rw [hR]; split <;> exact Cm.cells_one _
  rw [if_neg hd] at hR
  have HR0 : Hid (R[0]? = some (.int .u8 0)) := by rw [hR]; rfl
  have hd0 : ((dce ((plainOf s h).take 32) : Int) != 0) = true := by rw [bne_iff_ne]; omega
  generalize (dce ((plainOf s h).take 32)) = E at *
  clear hR hpl2 hd
  have hsl := Sp.cells_len hs
  have hhl : (u8s h).length = 288 := by rw [u8s_length, hh]
  generalize u8s h = U at *
  generalize s.cells = S at *
  clear hs hh hf hpl
  have hb2 : Blk ((((w.alloc (.cells U.toArray 37)).alloc (.cells S.toArray 43)).alloc (.cells Cm.zero.cells.toArray 50)).alloc (.cells Tryz.zeroCells37 37)) w.heap.size 37 U := (((Blk.new w _ _).alloc _).alloc _).alloc _
  have hb3 : Blk ((((w.alloc (.cells U.toArray 37)).alloc (.cells S.toArray 43)).alloc (.cells Cm.zero.cells.toArray 50)).alloc (.cells Tryz.zeroCells37 37)) (w.heap.size + 1) 43 S := ((Blk.new' (by simp) rfl).alloc _).alloc _
  have hb4 : Blk ((((w.alloc (.cells U.toArray 37)).alloc (.cells S.toArray 43)).alloc (.cells Cm.zero.cells.toArray 50)).alloc (.cells Tryz.zeroCells37 37)) (w.heap.size + 2) 50 Cm.zero.cells := (Blk.new' (by simp) rfl).alloc _
  have hb5 : Blk ((((w.alloc (.cells U.toArray 37)).alloc (.cells S.toArray 43)).alloc (.cells Cm.zero.cells.toArray 50)).alloc (.cells Tryz.zeroCells37 37)) (w.heap.size + 3) 37 (u8s z288) := Blk.new' (by simp) zc34'
  have hE : Below w.heap.size w ((((w.alloc (.cells U.toArray 37)).alloc (.cells S.toArray 43)).alloc (.cells Cm.zero.cells.toArray 50)).alloc (.cells Tryz.zeroCells37 37)) := ((((Below.refl _ w).alloc (Nat.le_refl _) _).alloc (by simp) _).alloc (by simp; omega) _).alloc (by simp; omega) _
  have hl1 : ∀ o1 o2, (ldAt 37 (.pointer (some ⟨w.heap.size, 0, none⟩))).run Tryz.prog ((((w.alloc (.cells U.toArray 37)).alloc (.cells S.toArray 43)).alloc o1).alloc o2) = .ok (.agg U.toArray) ((((w.alloc (.cells U.toArray 37)).alloc (.cells S.toArray 43)).alloc o1).alloc o2) := fun o1 o2 => hd_ld ((((Blk.new w _ _).alloc _).alloc o1).alloc o2) hhl
  have hl2 : ∀ o1 o2, (ldAt 43 (.pointer (some ⟨w.heap.size + 1, 0, none⟩))).run Tryz.prog ((((w.alloc (.cells U.toArray 37)).alloc (.cells S.toArray 43)).alloc o1).alloc o2) = .ok (.agg S.toArray) ((((w.alloc (.cells U.toArray 37)).alloc (.cells S.toArray 43)).alloc o1).alloc o2) := fun o1 o2 => sp_ld (((Blk.new' (by simp) rfl).alloc o1).alloc o2) hsl
  have HB2 := Lib.hid hb2
  have HB3 := Lib.hid hb3
  have HB4 := Lib.hid hb4
  have HB5 := Lib.hid hb5
  have HE := Lib.hid hE
  clear hb2 hb3 hb4 hb5 hE hsl hhl
  go_enter Tryz.func11, Tryz.ntmps11
  go_upto_region 3 with (go_at_call 10; (with_reducible refine (HF.out _).mono ?_); rintro e w1 ⟨rfl, hB1⟩; have HE1 := Lib.hid (HE.out.trans (hB1.mono (by simp; omega))); have HZ2 := qbl HB2 hB1; have HZ3 := qbl HB3 hB1; have HZ4 := qbl HB4 hB1; have HZ5 := qbl HB5 hB1; clear hB1)
  go_region_held3 (fun _ => True) (trivial) ((go_at_call 21; (refine (HT.out _ _ _ (by repeat (first | exact Blk.new' (by simp) rfl | apply Blk.drew | apply Blk.alloc)) (by repeat (first | exact HZ2.out | apply Blk.drew | apply Blk.alloc)) (by repeat (first | exact HZ3.out | apply Blk.drew | apply Blk.alloc)) (by repeat (first | exact Blk.new' (by simp) rfl | apply Blk.drew | apply Blk.alloc))).mono ?_); rintro e w4 ⟨g4, c4, rfl, hc4, hown4, hB4⟩))
  have HS4 : Hid (Below w1.heap.size w1 w4) := (((Below.refl _ w1).drew.alloc (by simp) _).alloc (by simp <;> omega) _).trans (hB4.mono (by simp <;> omega))
  have hs1 := HE1.out.size
  have hz4 := HZ4.out.lt
  have hz5 := HZ5.out.lt
  have hs4 := HS4.out.size
  have HE4 := Lib.hid (HE1.out.trans (HS4.out.mono hs1))
  have HY4 := Lib.hid (HZ4.out.below HS4.out HZ4.out.lt)
  have HY5 := Lib.hid (HZ5.out.below HS4.out HZ5.out.lt)
  have HR4 := Lib.hid (Rd.of_own hown4)
  have hc32 : 32 ≤ c4 := by omega
  clear hown4 hB4 HT
  go_wp2_with (first
    | (go_at_call 26; (with_reducible refine (HD.out _ _ _ (by exact hc32) (by exact HR4.out)).mono ?_); rintro e w5 ⟨rfl, hB5⟩
       have HE5 := qtr HE4 hB5
       have HX4 := qbl HY4 hB5
       have HX5 := qbl HY5 hB5
       have hs5 := hB5.size
       clear hB5)
    | refine wpList_build rfl 50 [] rfl [] (by rfl) _ (build_cm0 _) ?_
    | refine wpList_build rfl 37 [] rfl [] (by rfl) _ (build34_z _) ?_
    | (refine wpList_store_all rfl 50 (.tmp 9) (.tmp 37) rfl w5.heap.size R (by rfl) (by rfl) 50 Cm.zero.cells (by exact Blk.new' rfl rfl) (by rw [HRL.out]; exact hd76c) HR1.out (by rw [HRL.out]; rfl) ?_; intro w6 hb6 ho6
       have HE6 := Lib.hid (ho6.below (HE5.out.alloc HE5.out.size _) HE5.out.size (Nat.le_trans HE5.out.size (by simp)))
       have HV4 := Lib.hid (ho6.blk (HX4.out.alloc _) (by omega))
       have HV5 := Lib.hid (ho6.blk (HX5.out.alloc _) (by omega))
       have HV9 := Lib.hid hb6
       have c90 := (hb6.cell 0).trans HR0.out
       have hl9 := cm_ld hb6 HRL.out
       clear hb6 ho6)
    | (refine wpList_store_all rfl 50 (.tmp 4) (.tmp 41) rfl (w.heap.size + 2) Cm.zero.cells (by rfl) (by rfl) 50 _ HV4.out (by exact hd76c) (Cm.cells_one _) (by exact rfl) ?_; intro w7 hb7 ho7
       have HE7 := Lib.hid (ho7.below HE6.out (by omega) HE6.out.size)
       have HU4 := Lib.hid hb7
       have HU5 := Lib.hid (ho7.blk HV5.out (by omega))
       clear hb7 ho7)
    | (refine wpList_store_all rfl 37 (.tmp 5) (.tmp 42) rfl (w.heap.size + 3) (u8s z288) (by rfl) (by rfl) 37 _ HU5.out (by rw [z288_len]; exact hd34) (u8s_one _) (by exact rfl) ?_; intro w8 hb8 ho8
       have HE8 := Lib.hid (ho8.below HE7.out (by omega) HE7.out.size)
       have HW4 := Lib.hid (ho8.blk HU4.out (by omega))
       have HW5 := Lib.hid hb8
       clear hb8 ho8))
  exact bodyPost_ret (res_cct rfl _ _ _ _ _ _ _ rfl rfl HW4.out _ Tryz.underlying50 rfl (by exact hd76c) HW5.out _ Tryz.underlying37 rfl (by rw [z288_len]; exact hd34)) rfl ⟨rfl, HE8.out⟩
set_option maxRecDepth 100000 in
set_option maxHeartbeats 4000000 in
theorem open_last (s : Sp) (hs : s.ok) (h : List UInt8) (hh : h.length = 288) (hf : fits s h = true) (hd : dce ((plainOf s h).take 32) = 0) (hk : (dcm ((plainOf s h).take 32)).k ≠ 1) (w : World) :
    Calls Tryz.prog 11 #[.agg (u8s h).toArray, .agg s.cells.toArray] w fun e w' => e = .returned (.tuple #[.agg (dcm ((plainOf s h).take 32)).cells.toArray, .agg (u8s z288).toArray, .int .i64 0]) ∧ Below w.heap.size w w' := by
  have HF := Lib.hid (fun W => fits_any s hs h hh W)
  rw [hf] at HF
  have HT : Hid (∀ (W : World) (gl gz : Nat), Blk W gl 23 [.slice (some ⟨w.heap.size, 48, none⟩) 240 240, .slice (some ⟨gz, 0, none⟩) 48 48] → Blk W w.heap.size 37 (u8s h) → Blk W (w.heap.size + 1) 43 s.cells → Blk W gz 5 (u8s (List.replicate 48 0)) →
      Calls Tryz.prog 21 #[.slice (some ⟨w.heap.size + 1, 32, none⟩) 32 32, .slice (some ⟨gl, 0, none⟩) 2 2] W fun e w' => ∃ g c', e = .returned (.tuple #[.slice (some ⟨g, 0, none⟩) 288 c', .int .i64 0]) ∧ 288 ≤ c' ∧ w'.ownsRow W.heap.size 5 1 (.slice (some ⟨g, 0, none⟩) 288 c') 288 (u8s (plainOf s h)) ∧ Below W.heap.size W w') := fun W gl gz h1 h2 h3 h4 => by
    refine (turn_to (some ⟨w.heap.size + 1, 32, none⟩) 32 s.stream (some ⟨gl, 0, none⟩) 2 2 [(h.drop 48).take 240, List.replicate 48 0] ((h.drop 48).take 240 ++ List.replicate 48 0) 288 W (Sp.rd h3 hs 32 s.stream (by omega) (Sp.at_stream hs))
      (RdB.of_blk h1 ⟨.of_blk h2 48 240 240 _ (by rw [u8s_length, hh]; omega) (by omega) (by rw [u8s_drop, u8s_take]), .of_blk h4 0 48 48 _ (by rw [u8s_length, List.length_replicate]; omega) (by omega) (by rw [List.drop_zero, List.take_of_length_le (by rw [u8s_length, List.length_replicate]; omega)]), trivial⟩) (by omega) (by simp) (by simp [hh]) (by omega)).mono ?_
    rintro e w' ⟨A', c', rfl, hc', ho, hB⟩
    obtain ⟨g, rfl, _⟩ := own_pos ho (by omega)
    exact ⟨g, c', rfl, hc', ho, hB⟩
  have hmk : ∀ W, (Instr.makeSlice 23 (.int .i64 48) (.int .i64 48)).run Tryz.prog W = .ok (.slice (some ⟨W.heap.size, 0, none⟩) 48 48) (W.alloc (.cells (u8s (List.replicate 48 0)).toArray 5)) := fun W => by kernel_rfl
  have hpl := plainOf_len s hh
  have HD : Hid (∀ (W : World) (g c : Nat), 32 ≤ c → Rd W (some ⟨g, 0, none⟩) 288 (u8s (plainOf s h)) → Calls Tryz.prog 26 #[.slice (some ⟨g, 0, none⟩) 32 c] W fun e w' => e = .returned (.tuple #[.agg (if dce ((plainOf s h).take 32) = 0 then (dcm ((plainOf s h).take 32)).cells else Cm.zero.cells).toArray, .int .i64 (dce ((plainOf s h).take 32) : Int)]) ∧ Below W.heap.size W w') := fun W g c hc hr => by
    have h5 := rd_mid hr 0 32 (by omega)
    rw [List.drop_zero, Nat.zero_add] at h5
    exact cdec_any _ c _ W h5 hc
  obtain ⟨R, hR⟩ : ∃ R, R = (if dce ((plainOf s h).take 32) = 0 then (dcm ((plainOf s h).take 32)).cells else Cm.zero.cells) := ⟨_, rfl⟩
  rw [← hR] at HD
  have hpl2 : ((plainOf s h).take 32).length = 32 := by rw [List.length_take, hpl]; rfl
  have HRL : Hid (R.length = 20) := by show _ = _; rw [hR]; split <;> first | exact Cm.cells_len (dcm_ok hpl2) | rfl
  have HR1 : Hid (∀ v ∈ R, v.oneCell' = true) := by show ∀ v ∈ R, _; rw [hR]; split <;> exact Cm.cells_one _
  rw [hd, if_pos rfl] at hR
  rw [hd] at HD
  have HR0 : Hid (R[0]? = some (.int .u8 (dcm ((plainOf s h).take 32)).k.toNat)) := by rw [hR]; rfl
  have hk1 : (((dcm ((plainOf s h).take 32)).k.toNat : Int) != 1) = true := by
    rw [bne_iff_ne]
    exact fun h2 => hk (UInt8.toNat_inj.1 (by show _ = 1; omega))
  rw [← hR]
  generalize (dcm ((plainOf s h).take 32)).k = k at *
  clear hR hpl2 hd hk
  have hsl := Sp.cells_len hs
  have hhl : (u8s h).length = 288 := by rw [u8s_length, hh]
  generalize u8s h = U at *
  generalize s.cells = S at *
  clear hs hh hf hpl
  have hb2 : Blk ((((w.alloc (.cells U.toArray 37)).alloc (.cells S.toArray 43)).alloc (.cells Cm.zero.cells.toArray 50)).alloc (.cells Tryz.zeroCells37 37)) w.heap.size 37 U := (((Blk.new w _ _).alloc _).alloc _).alloc _
  have hb3 : Blk ((((w.alloc (.cells U.toArray 37)).alloc (.cells S.toArray 43)).alloc (.cells Cm.zero.cells.toArray 50)).alloc (.cells Tryz.zeroCells37 37)) (w.heap.size + 1) 43 S := ((Blk.new' (by simp) rfl).alloc _).alloc _
  have hb4 : Blk ((((w.alloc (.cells U.toArray 37)).alloc (.cells S.toArray 43)).alloc (.cells Cm.zero.cells.toArray 50)).alloc (.cells Tryz.zeroCells37 37)) (w.heap.size + 2) 50 Cm.zero.cells := (Blk.new' (by simp) rfl).alloc _
  have hb5 : Blk ((((w.alloc (.cells U.toArray 37)).alloc (.cells S.toArray 43)).alloc (.cells Cm.zero.cells.toArray 50)).alloc (.cells Tryz.zeroCells37 37)) (w.heap.size + 3) 37 (u8s z288) := Blk.new' (by simp) zc34'
  have hE : Below w.heap.size w ((((w.alloc (.cells U.toArray 37)).alloc (.cells S.toArray 43)).alloc (.cells Cm.zero.cells.toArray 50)).alloc (.cells Tryz.zeroCells37 37)) := ((((Below.refl _ w).alloc (Nat.le_refl _) _).alloc (by simp) _).alloc (by simp; omega) _).alloc (by simp; omega) _
  have hl1 : ∀ o1 o2, (ldAt 37 (.pointer (some ⟨w.heap.size, 0, none⟩))).run Tryz.prog ((((w.alloc (.cells U.toArray 37)).alloc (.cells S.toArray 43)).alloc o1).alloc o2) = .ok (.agg U.toArray) ((((w.alloc (.cells U.toArray 37)).alloc (.cells S.toArray 43)).alloc o1).alloc o2) := fun o1 o2 => hd_ld ((((Blk.new w _ _).alloc _).alloc o1).alloc o2) hhl
  have hl2 : ∀ o1 o2, (ldAt 43 (.pointer (some ⟨w.heap.size + 1, 0, none⟩))).run Tryz.prog ((((w.alloc (.cells U.toArray 37)).alloc (.cells S.toArray 43)).alloc o1).alloc o2) = .ok (.agg S.toArray) ((((w.alloc (.cells U.toArray 37)).alloc (.cells S.toArray 43)).alloc o1).alloc o2) := fun o1 o2 => sp_ld (((Blk.new' (by simp) rfl).alloc o1).alloc o2) hsl
  have HB2 := Lib.hid hb2
  have HB3 := Lib.hid hb3
  have HB4 := Lib.hid hb4
  have HB5 := Lib.hid hb5
  have HE := Lib.hid hE
  clear hb2 hb3 hb4 hb5 hE hsl hhl
  go_enter Tryz.func11, Tryz.ntmps11
  go_upto_region 3 with (go_at_call 10; (with_reducible refine (HF.out _).mono ?_); rintro e w1 ⟨rfl, hB1⟩; have HE1 := Lib.hid (HE.out.trans (hB1.mono (by simp; omega))); have HZ2 := qbl HB2 hB1; have HZ3 := qbl HB3 hB1; have HZ4 := qbl HB4 hB1; have HZ5 := qbl HB5 hB1; clear hB1)
  go_region_held3 (fun _ => True) (trivial) ((go_at_call 21; (refine (HT.out _ _ _ (by repeat (first | exact Blk.new' (by simp) rfl | apply Blk.drew | apply Blk.alloc)) (by repeat (first | exact HZ2.out | apply Blk.drew | apply Blk.alloc)) (by repeat (first | exact HZ3.out | apply Blk.drew | apply Blk.alloc)) (by repeat (first | exact Blk.new' (by simp) rfl | apply Blk.drew | apply Blk.alloc))).mono ?_); rintro e w4 ⟨g4, c4, rfl, hc4, hown4, hB4⟩))
  have HS4 : Hid (Below w1.heap.size w1 w4) := (((Below.refl _ w1).drew.alloc (by simp) _).alloc (by simp <;> omega) _).trans (hB4.mono (by simp <;> omega))
  have hs1 := HE1.out.size
  have hz4 := HZ4.out.lt
  have hz5 := HZ5.out.lt
  have hs4 := HS4.out.size
  have HE4 := Lib.hid (HE1.out.trans (HS4.out.mono hs1))
  have HY4 := Lib.hid (HZ4.out.below HS4.out HZ4.out.lt)
  have HY5 := Lib.hid (HZ5.out.below HS4.out HZ5.out.lt)
  have HR4 := Lib.hid (Rd.of_own hown4)
  have hc32 : 32 ≤ c4 := by omega
  clear hown4 hB4 HT
  go_wp2_with (first
    | (go_at_call 26; (with_reducible refine (HD.out _ _ _ (by exact hc32) (by exact HR4.out)).mono ?_); rintro e w5 ⟨rfl, hB5⟩
       have HE5 := qtr HE4 hB5
       have HX4 := qbl HY4 hB5
       have HX5 := qbl HY5 hB5
       have hs5 := hB5.size
       clear hB5)
    | refine wpList_build rfl 50 [] rfl [] (by rfl) _ (build_cm0 _) ?_
    | refine wpList_build rfl 37 [] rfl [] (by rfl) _ (build34_z _) ?_
    | (refine wpList_store_all rfl 50 (.tmp 9) (.tmp 37) rfl w5.heap.size R (by rfl) (by rfl) 50 Cm.zero.cells (by exact Blk.new' rfl rfl) (by rw [HRL.out]; exact hd76c) HR1.out (by rw [HRL.out]; rfl) ?_; intro w6 hb6 ho6
       have HE6 := Lib.hid (ho6.below (HE5.out.alloc HE5.out.size _) HE5.out.size (Nat.le_trans HE5.out.size (by simp)))
       have HV4 := Lib.hid (ho6.blk (HX4.out.alloc _) (by omega))
       have HV5 := Lib.hid (ho6.blk (HX5.out.alloc _) (by omega))
       have HV9 := Lib.hid hb6
       have c90 := (hb6.cell 0).trans HR0.out
       have hl9 := cm_ld hb6 HRL.out
       clear hb6 ho6)
    | (refine wpList_store_all rfl 50 (.tmp 4) (.tmp 46) rfl (w.heap.size + 2) R (by rfl) (by rfl) 50 _ HV4.out (by rw [HRL.out]; exact hd76c) HR1.out (by rw [HRL.out]; rfl) ?_; intro w7 hb7 ho7
       have HE7 := Lib.hid (ho7.below HE6.out (by omega) HE6.out.size)
       have HU4 := Lib.hid hb7
       have HU5 := Lib.hid (ho7.blk HV5.out (by omega))
       clear hb7 ho7)
    | (refine wpList_store_all rfl 37 (.tmp 5) (.tmp 47) rfl (w.heap.size + 3) (u8s z288) (by rfl) (by rfl) 37 _ HU5.out (by rw [z288_len]; exact hd34) (u8s_one _) (by exact rfl) ?_; intro w8 hb8 ho8
       have HE8 := Lib.hid (ho8.below HE7.out (by omega) HE7.out.size)
       have HW4 := Lib.hid (ho8.blk HU4.out (by omega))
       have HW5 := Lib.hid hb8
       clear hb8 ho8))
  exact bodyPost_ret (res_cct rfl _ _ _ _ _ _ _ rfl rfl HW4.out _ Tryz.underlying50 rfl (by exact (by rw [HRL.out]; exact hd76c)) HW5.out _ Tryz.underlying37 rfl (by rw [z288_len]; exact hd34)) rfl ⟨rfl, HE8.out⟩
end Go.Proofs.YtlbnibmcflmohaaGreat
namespace Go.Proofs.YtlbnibmcflmohaaGreat
open Go.RowKit
theorem mB_len (k u : List UInt8) : (mB k u).length = 32 := by
  unfold mB
  split
  · rfl
  · exact leB_len _
theorem Sp.at_blind {s : Sp} (h : s.ok) : (s.bytes.drop 96).take 32 = s.blind := by
  have e : s.bytes = (s.mac ++ (s.stream ++ s.pay)) ++ (s.blind ++ (s.alpha ++ s.secret)) := by simp [Sp.bytes]
  rw [e, List.drop_left' (by simp [h.1, h.2.1, h.2.2.1]), List.take_left' h.2.2.2.1]
set_option maxRecDepth 100000 in
set_option maxHeartbeats 1000000 in
theorem next_any (s : Sp) (hs : s.ok) (w : World) :
    Calls Tryz.prog 17 #[.agg s.cells.toArray] w fun e w' => e = .returned (.tuple #[.agg (u8s (mB s.blind s.alpha)).toArray, .int .i64 (mE s.blind s.alpha : Int)]) ∧ Below w.heap.size w w' := by
  obtain ⟨C, hC⟩ : ∃ C, C = s.cells := ⟨_, rfl⟩
  have HCL : Hid (C.length = 192) := (by show _ = _; rw [hC]; exact Sp.cells_len hs)
  have HM : Hid (∀ W, Blk W w.heap.size 43 C → Calls Tryz.prog 24 #[.slice (some ⟨w.heap.size, 96, none⟩) 32 32, .slice (some ⟨w.heap.size, 128, none⟩) 32 32] W fun e w' => e = .returned (.tuple #[.agg (u8s (mB s.blind s.alpha)).toArray, .int .i64 (mE s.blind s.alpha : Int)]) ∧ Below W.heap.size W w') := fun W h => by
    rw [hC] at h
    exact mult_yes _ _ 32 32 s.blind s.alpha W (Sp.rd h hs 96 s.blind (by omega) (Sp.at_blind hs)) (Sp.rd h hs 128 s.alpha (by omega) (Sp.at_alpha hs))
  have HML := Lib.hid (mB_len s.blind s.alpha)
  rw [← hC]
  generalize mB s.blind s.alpha = M at *
  generalize (mE s.blind s.alpha : Int) = E at *
  clear hC hs
  have HB0 : Hid (Blk ((w.alloc (.cells C.toArray 43)).alloc (.cells o32.toArray 26)) w.heap.size 43 C ∧ Blk ((w.alloc (.cells C.toArray 43)).alloc (.cells o32.toArray 26)) (w.heap.size + 1) 26 o32 ∧ Below w.heap.size w ((w.alloc (.cells C.toArray 43)).alloc (.cells o32.toArray 26))) :=
    ⟨(Blk.new w _ _).alloc _, Blk.new' (by simp) rfl, ((Below.refl _ w).alloc (Nat.le_refl _) _).alloc (by simp) _⟩
  go_enter Tryz.func17, Tryz.ntmps17
  go_wp2
  refine region_K (by kernel_rfl) 8 (fun w' => True) ?_
  refine AnyK.pure 0 (v := .pointer (some ⟨w.heap.size, 0, none⟩)) rfl (by kernel_rfl) (fun _ _ _ h => h) rfl (fun _ => by kernel_rfl) (fun _ => trivial) ?_
  refine AnyK.pure 1 (v := .pointer (some ⟨w.heap.size, 96, none⟩)) rfl (by kernel_rfl) (fun _ _ _ h => h) rfl (fun _ => by kernel_rfl) (fun _ => trivial) ?_
  refine AnyK.pure 2 (v := .slice (some ⟨w.heap.size, 96, none⟩) 32 32) rfl (by kernel_rfl) (fun _ _ _ h => h) rfl (fun _ => by kernel_rfl) (fun _ => trivial) ?_
  refine AnyK.pure 3 (v := .pointer (some ⟨w.heap.size, 128, none⟩)) rfl (by kernel_rfl) (fun _ _ _ h => h) rfl (fun _ => by kernel_rfl) (fun _ => trivial) ?_
  refine AnyK.pure 4 (v := .slice (some ⟨w.heap.size, 128, none⟩) 32 32) rfl (by kernel_rfl) (fun _ _ _ h => h) rfl (fun _ => by kernel_rfl) (fun _ => trivial) ?_
  refine AnyK.enter 5 (d := some 9) (f := 24) (args := #[.slice (some ⟨w.heap.size, 96, none⟩) 32 32, .slice (some ⟨w.heap.size, 128, none⟩) 32 32]) (by rfl) (by kernel_rfl) (by kernel_rfl) ?_
  refine (HM.out _ (by exact HB0.out.1.drew)).mono ?_
  rintro e w2 ⟨rfl, hB⟩
  refine ⟨_, rfl, fun _ => trivial, ?_⟩
  have hB' : Below ((w.alloc (.cells C.toArray 43)).alloc (.cells o32.toArray 26)).drew.heap.size ((w.alloc (.cells C.toArray 43)).alloc (.cells o32.toArray 26)).drew w2 := hB
  have hz2 := HB0.out.2.1.drew.below hB' HB0.out.2.1.drew.lt
  have hE2 := HB0.out.2.2.drew.trans (hB'.mono HB0.out.2.2.drew.size)
  refine AnyK.pure 6 (v := .agg (u8s M).toArray) rfl (by kernel_rfl) (fun _ _ _ h => h) rfl (fun _ => by kernel_rfl) (fun _ => trivial) ?_
  refine AnyK.pure 7 (v := .int .i64 E) rfl (by kernel_rfl) (fun _ _ _ h => h) rfl (fun _ => by kernel_rfl) (fun _ => trivial) ?_
  refine AnyK.storeAll 8 (w.heap.size + 1) (u8s M) 26 o32 (by rfl) rfl rfl (by rfl) (by kernel_rfl) (by kernel_rfl) (by kernel_rfl) hz2 (by rw [u8s_length, HML.out]; exact hd32) (u8s_one _) (by rw [u8s_length, HML.out]; rfl) (fun _ _ _ _ => trivial) ?_
  intro w3 hb3 ho3
  have HE3 := Lib.hid (ho3.below hE2 (by omega) hE2.size)
  refine AnyK.val 9 (v := .int .i64 E) (by rfl) (by kernel_rfl) rfl (by kernel_rfl) (fun _ => trivial) ?_
  refine AnyK.done (by kernel_rfl) ?_
  have HB3 := Lib.hid hb3
  clear hb3 ho3 hz2 hE2 hB hB'
  go_wp2
  exact bodyPost_ret (res_cell_tmp (p := 2) (u := 3) (ty := 26) rfl _ (w.heap.size + 1) 26 (u8s M) (by kernel_rfl) HB3.out _ Tryz.underlying26 rfl (by rw [u8s_length, HML.out]; exact hd32)) rfl ⟨by kernel_rfl, HE3.out⟩
end Go.Proofs.YtlbnibmcflmohaaGreat
namespace Go.Proofs.YtlbnibmcflmohaaGreat
open Go.RowKit
noncomputable def chV : List UInt8 → List (List UInt8) → List UInt8 × Nat
  | u, [] => (u, 0)
  | u, k :: ks => if mE k u = 0 then chV (mB k u) ks else (List.replicate 32 0, mE k u)
theorem chV_len : ∀ (ks : List (List UInt8)) (u : List UInt8), u.length = 32 → (chV u ks).1.length = 32
  | [], u, h => h
  | k :: ks, u, h => by
      rw [chV]
      split
      · exact chV_len ks _ (mB_len _ _)
      · rfl
noncomputable def nrm (u : List UInt8) : List UInt8 := leB (readN u % pr)
theorem nrm_len (u : List UInt8) : (nrm u).length = 32 := leB_len _
def lMac : List UInt8 := [109, 97, 99]
def lStream : List UInt8 := [115, 116, 114, 101, 97, 109]
def lPay : List UInt8 := [112, 97, 121]
def lBlind : List UInt8 := [98, 108, 105, 110, 100]
def stp (al sec : List UInt8) : Sp := ⟨Wd.derive sec lMac, Wd.derive sec lStream, Wd.derive sec lPay, Wd.derive sec lBlind, al, sec⟩
theorem stp_ok {al sec : List UInt8} (h1 : al.length = 32) (h2 : sec.length = 32) : (stp al sec).ok := ⟨Wd.derive_len _ _, Wd.derive_len _ _, Wd.derive_len _ _, Wd.derive_len _ _, h1, h2⟩
noncomputable def sch : List Sp → List (List UInt8) → List UInt8 → List (List UInt8) → List Sp × Nat
  | acc, _, _, [] => (acc, 0)
  | acc, sc, al, p :: ps => if (chV (nrm p) sc).2 = 0 then sch (acc ++ [stp al (chV (nrm p) sc).1]) (sc ++ [Wd.derive (chV (nrm p) sc).1 lBlind]) (mB (Wd.derive (chV (nrm p) sc).1 lBlind) al) ps else ([], (chV (nrm p) sc).2)
theorem mE_uB {j : Nat} (hj : ¬ ordB ∣ j) {k : List UInt8} (hk : k.length = 32) : mE k (leB (uB j)) = 0 := by
  unfold mE
  rw [mult_uB hj hk, if_neg (uB_ne (ord_mul hj (clm hk)))]
theorem mB_uB {j : Nat} (hj : ¬ ordB ∣ j) {k : List UInt8} (hk : k.length = 32) : mB k (leB (uB j)) = leB (uB (j * clN k)) := by
  unfold mB
  rw [mult_uB hj hk, if_neg (uB_ne (ord_mul hj (clm hk)))]
theorem one_ord : ¬ ordB ∣ 1 := by
  intro h
  have := Nat.le_of_dvd (by omega) h
  have h5 : Nat.ble 3 ordB = true := by kernel_rfl
  have := Nat.le_of_ble_eq_true h5
  omega
def Good (al : List UInt8) : Prop := ∃ j, ¬ ordB ∣ j ∧ al = leB (uB j)
theorem Good.len {al : List UInt8} (h : Good al) : al.length = 32 := by obtain ⟨j, _, rfl⟩ := h; exact leB_len _
theorem Good.mE {al k : List UInt8} (h : Good al) (hk : k.length = 32) : mE k al = 0 := by obtain ⟨j, hj, rfl⟩ := h; exact mE_uB hj hk
theorem Good.mB {al k : List UInt8} (h : Good al) (hk : k.length = 32) : Good (mB k al) := by
  obtain ⟨j, hj, rfl⟩ := h
  exact ⟨j * clN k, ord_mul hj (clm hk), mB_uB hj hk⟩
def nine : List UInt8 := leB (9 % pr)
theorem good_nine : Good nine := ⟨1, one_ord, by rw [nine, uB_one, Nat.mod_eq_of_lt (by show 9 < pr; exact Nat.le_of_ble_eq_true (by kernel_rfl))]⟩
end Go.Proofs.YtlbnibmcflmohaaGreat
