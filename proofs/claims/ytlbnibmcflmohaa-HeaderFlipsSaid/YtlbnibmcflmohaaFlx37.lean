/- Part of the proof: Hop. -/
import Derived.Test.YtlbnibmcflmohaaFlx30
import Derived.Test.YtlbnibmcflmohaaFlx34
namespace Go.Proofs.Ytlbnibmcflmohaa
open Go.RowKit
structure Sp where
  mac : List UInt8
  stream : List UInt8
  pay : List UInt8
  blind : List UInt8
  alpha : List UInt8
  secret : List UInt8
namespace Sp
def bytes (s : Sp) : List UInt8 := s.mac ++ (s.stream ++ (s.pay ++ (s.blind ++ (s.alpha ++ s.secret))))
def cells (s : Sp) : List Value := u8s s.bytes
def ok (s : Sp) : Prop := s.mac.length = 32 ∧ s.stream.length = 32 ∧ s.pay.length = 32 ∧ s.blind.length = 32 ∧ s.alpha.length = 32 ∧ s.secret.length = 32
theorem bytes_len {s : Sp} (h : s.ok) : s.bytes.length = 192 := by obtain ⟨h1, h2, h3, h4, h5, h6⟩ := h; simp [bytes, h1, h2, h3, h4, h5, h6]
theorem cells_len {s : Sp} (h : s.ok) : s.cells.length = 192 := by rw [cells, u8s_length, bytes_len h]
theorem at_mac {s : Sp} (h : s.ok) : (s.bytes.drop 0).take 32 = s.mac := by rw [bytes, List.drop_zero, List.take_left' h.1]
theorem at_stream {s : Sp} (h : s.ok) : (s.bytes.drop 32).take 32 = s.stream := by rw [bytes, List.drop_left' h.1, List.take_left' h.2.1]
theorem at_alpha {s : Sp} (h : s.ok) : (s.bytes.drop 128).take 32 = s.alpha := by
  have e : s.bytes = (s.mac ++ (s.stream ++ (s.pay ++ s.blind))) ++ (s.alpha ++ s.secret) := by simp [bytes]
  rw [e, List.drop_left' (by simp [h.1, h.2.1, h.2.2.1, h.2.2.2.1]), List.take_left' h.2.2.2.2.1]
end Sp
theorem Sp.rd {w : World} {g : Nat} {t : TypeId} {s : Sp} (hb : Blk w g t s.cells) (h : s.ok) (o : Nat) (x : List UInt8) (ho : o + 32 ≤ 192) (hx : (s.bytes.drop o).take 32 = x) : Rd w (some ⟨g, o, none⟩) 32 (u8s x) := by
  have h5 := hb.rd o 32 (by rw [Sp.cells_len h]; exact ho)
  rwa [Sp.cells, u8s_drop, u8s_take, hx] at h5
theorem hd69 : (Try.prog.info? 39).map (·.size) = some 192 := by kernel_rfl
def tagOf (mac : List UInt8) (h : List UInt8) : List UInt8 := (Mc.tag mac (h.take 32 ++ (h.drop 48).take 240)).take 16
def fits (s : Sp) (h : List UInt8) : Bool := decide (tagOf s.mac h = (h.drop 32).take 16)
set_option maxRecDepth 100000 in
set_option maxHeartbeats 1000000 in
theorem fits_any (s : Sp) (hs : s.ok) (h : List UInt8) (hh : h.length = 288) (w : World) :
    Calls Try.prog 7 #[.agg (u8s h).toArray, .agg s.cells.toArray] w fun e w' => e = .returned (.bool (fits s h)) ∧ Below w.heap.size w w' := by
  have HQ : Hid (∀ (W : World) (gl : Nat), Blk W gl 43 [.slice (some ⟨w.heap.size, 0, none⟩) 32 32, .slice (some ⟨w.heap.size, 48, none⟩) 240 240] → Blk W w.heap.size 29 (u8s h) → Blk W (w.heap.size + 1) 39 s.cells →
      Calls Try.prog 20 #[.slice (some ⟨w.heap.size + 1, 0, none⟩) 32 32, .slice (some ⟨w.heap.size, 32, none⟩) 16 16, .slice (some ⟨gl, 0, none⟩) 2 2] W fun e w' => e = .returned (.bool (fits s h)) ∧ Below W.heap.size W w') := fun W gl h1 h2 h3 => by
    have h5 := mcheck_any (some ⟨w.heap.size + 1, 0, none⟩) 32 32 s.mac (some ⟨w.heap.size, 32, none⟩) 16 16 ((h.drop 32).take 16) (some ⟨gl, 0, none⟩) 2 2 [h.take 32, (h.drop 48).take 240] W (Sp.rd h3 hs 0 s.mac (by omega) (Sp.at_mac hs)) (by omega) (by omega)
      (RdB.of_blk h1 ⟨.of_blk h2 0 32 32 _ (by rw [u8s_length, hh]; omega) (by omega) (by rw [u8s_drop, u8s_take]; rfl), .of_blk h2 48 240 240 _ (by rw [u8s_length, hh]; omega) (by omega) (by rw [u8s_drop, u8s_take]), trivial⟩) (by omega)
      (by simp [hh]) (by have h6 := h2.rd 32 16 (by rw [u8s_length, hh]; omega); rwa [u8s_drop, u8s_take] at h6)
    have e : [h.take 32, (h.drop 48).take 240].flatten = h.take 32 ++ (h.drop 48).take 240 := by simp
    rw [e] at h5
    exact h5
  have HF : Hid (fits s h = fits s h) := rfl
  generalize fits s h = F at *
  generalize u8s h = U at *
  generalize s.cells = S at *
  clear hs hh HF
  go_enter Try.func7, Try.ntmps7
  go_wp2_with fail
  go_region_held3 (fun _ => True) (trivial) ((go_at_call 20; (refine (HQ.out _ _ (by repeat (first | exact Blk.new' (by simp) rfl | apply Blk.drew | apply Blk.alloc)) (by repeat (first | exact Blk.new' (by simp) rfl | apply Blk.drew | apply Blk.alloc)) (by repeat (first | exact Blk.new' (by simp) rfl | apply Blk.drew | apply Blk.alloc))).mono ?_); rintro e w4 ⟨rfl, hB4⟩))
  go_wp2_with fail
  go_ret
  exact ⟨rfl, ((((Below.refl _ w).alloc (Nat.le_refl _) _).alloc (by simp) _).drew.alloc (by simp; omega) _).trans (hB4.mono (by simp; omega))⟩
theorem res_cct {P : Program} {w : World} {fn : Func} {p q u : Tmp} {ty ty' : TypeId} (h : fn.results = #[.cell p ty, .cell q ty', .tmp u]) (tmps : Array Value) (g g' : Nat) (t t' : TypeId) (cs cs' : List Value) (hp : tmps.getD p undef = .pointer (some ⟨g, 0, none⟩)) (hq : tmps.getD q undef = .pointer (some ⟨g', 0, none⟩))
    (hB : Blk w g t cs) (d : TypeDesc) (hu : P.underlying ty = some d) (hd : d.isRow = true) (hi : (P.info? ty).map (·.size) = some cs.length)
    (hB' : Blk w g' t' cs') (d' : TypeDesc) (hu' : P.underlying ty' = some d') (hd' : d'.isRow = true) (hi' : (P.info? ty').map (·.size) = some cs'.length) :
    (results fn tmps).run P w = .ok (.tuple #[.agg cs.toArray, .agg cs'.toArray, tmps.getD u undef]) w := by
  have hp' : tmps[p]?.getD undef = .pointer (some ⟨g, 0, none⟩) := by rw [← hp]; simp
  have hq' : tmps[q]?.getD undef = .pointer (some ⟨g', 0, none⟩) := by rw [← hq]; simp
  simp [results, h, hp', hq', asAddr, run_loadVar_mid w g 0 ty cs d hB.range hu hd hi, run_loadVar_mid w g' 0 ty' cs' d' hB'.range hu' hd' hi']
def plainOf (s : Sp) (h : List UInt8) : List UInt8 := Ch.turn s.stream ((h.drop 48).take 240 ++ List.replicate 48 0)
theorem plainOf_len (s : Sp) {h : List UInt8} (hh : h.length = 288) : (plainOf s h).length = 288 := by rw [plainOf, Ch.turn_len]; simp [hh]
def z288 : List UInt8 := List.replicate 288 0
theorem z288_len : (u8s z288).length = 288 := by rw [u8s_length, z288, List.length_replicate]
theorem build34_z (w : World) : (Instr.build 29 #[]).run Try.prog w = .ok (.agg (u8s z288).toArray) w := by rw [build34_0, zc34']; rfl
theorem ldq_69 (v : Value) : Instr.loadAt 39 v = ldAt 39 v := rfl
attribute [local go_sem ↓] ldq_34 ldq_69 ldq_cm
theorem hd_ld {w : World} {g : Nat} {t : TypeId} {C : List Value} (hb : Blk w g t C) (hl : C.length = 288) : (ldAt 29 (.pointer (some ⟨g, 0, none⟩))).run Try.prog w = .ok (.agg C.toArray) w :=
  ldAt_run hb _ 0 C (by rw [List.drop_zero, List.take_of_length_le (Nat.le_refl _)]) _ Try.underlying29 rfl (by rw [hl]; exact hd34)
theorem sp_ld {w : World} {g : Nat} {t : TypeId} {C : List Value} (hb : Blk w g t C) (hl : C.length = 192) : (ldAt 39 (.pointer (some ⟨g, 0, none⟩))).run Try.prog w = .ok (.agg C.toArray) w :=
  ldAt_run hb _ 0 C (by rw [List.drop_zero, List.take_of_length_le (Nat.le_refl _)]) _ Try.underlying39 rfl (by rw [hl]; exact hd69)
set_option maxRecDepth 100000 in
set_option maxHeartbeats 2000000 in
theorem open_bad (s : Sp) (hs : s.ok) (h : List UInt8) (hh : h.length = 288) (hf : fits s h = false) (w : World) :
    Calls Try.prog 12 #[.agg (u8s h).toArray, .agg s.cells.toArray] w fun e w' => e = .returned (.tuple #[.agg Cm.zero.cells.toArray, .agg (u8s z288).toArray, .int .i64 6]) ∧ Below w.heap.size w w' := by
  have HF := Lib.hid (fun W => fits_any s hs h hh W)
  rw [hf] at HF
  have hsl := Sp.cells_len hs
  have hhl : (u8s h).length = 288 := by rw [u8s_length, hh]
  generalize u8s h = U at *
  generalize s.cells = S at *
  clear hs hh hf
  have hb2 : Blk ((((w.alloc (.cells U.toArray 29)).alloc (.cells S.toArray 39)).alloc (.cells Cm.zero.cells.toArray 50)).alloc (.cells Try.zeroCells29 29)) w.heap.size 29 U := (((Blk.new w _ _).alloc _).alloc _).alloc _
  have hb3 : Blk ((((w.alloc (.cells U.toArray 29)).alloc (.cells S.toArray 39)).alloc (.cells Cm.zero.cells.toArray 50)).alloc (.cells Try.zeroCells29 29)) (w.heap.size + 1) 39 S := ((Blk.new' (by simp) rfl).alloc _).alloc _
  have hb4 : Blk ((((w.alloc (.cells U.toArray 29)).alloc (.cells S.toArray 39)).alloc (.cells Cm.zero.cells.toArray 50)).alloc (.cells Try.zeroCells29 29)) (w.heap.size + 2) 50 Cm.zero.cells := (Blk.new' (by simp) rfl).alloc _
  have hb5 : Blk ((((w.alloc (.cells U.toArray 29)).alloc (.cells S.toArray 39)).alloc (.cells Cm.zero.cells.toArray 50)).alloc (.cells Try.zeroCells29 29)) (w.heap.size + 3) 29 (u8s z288) := Blk.new' (by simp) zc34'
  have hE : Below w.heap.size w ((((w.alloc (.cells U.toArray 29)).alloc (.cells S.toArray 39)).alloc (.cells Cm.zero.cells.toArray 50)).alloc (.cells Try.zeroCells29 29)) := ((((Below.refl _ w).alloc (Nat.le_refl _) _).alloc (by simp) _).alloc (by simp; omega) _).alloc (by simp; omega) _
  have hl1 : ∀ o1 o2, (ldAt 29 (.pointer (some ⟨w.heap.size, 0, none⟩))).run Try.prog ((((w.alloc (.cells U.toArray 29)).alloc (.cells S.toArray 39)).alloc o1).alloc o2) = .ok (.agg U.toArray) ((((w.alloc (.cells U.toArray 29)).alloc (.cells S.toArray 39)).alloc o1).alloc o2) := fun o1 o2 => hd_ld ((((Blk.new w _ _).alloc _).alloc o1).alloc o2) hhl
  have hl2 : ∀ o1 o2, (ldAt 39 (.pointer (some ⟨w.heap.size + 1, 0, none⟩))).run Try.prog ((((w.alloc (.cells U.toArray 29)).alloc (.cells S.toArray 39)).alloc o1).alloc o2) = .ok (.agg S.toArray) ((((w.alloc (.cells U.toArray 29)).alloc (.cells S.toArray 39)).alloc o1).alloc o2) := fun o1 o2 => sp_ld (((Blk.new' (by simp) rfl).alloc o1).alloc o2) hsl
  have HB4 := Lib.hid hb4
  have HB5 := Lib.hid hb5
  have HE := Lib.hid hE
  clear hb2 hb3 hb4 hb5 hE hsl hhl
  go_enter Try.func12, Try.ntmps12
  go_wp2_with (first
    | (go_at_call 7; (with_reducible refine (HF.out _).mono ?_); rintro e w1 ⟨rfl, hB1⟩
       have HE1 := Lib.hid (HE.out.trans (hB1.mono (by simp; omega)))
       have HZ4 := qbl HB4 hB1
       have HZ5 := qbl HB5 hB1
       clear hB1)
    | refine wpList_build rfl 50 [] rfl [] (by rfl) _ (build_cm0 _) ?_
    | refine wpList_build rfl 29 [] rfl [] (by rfl) _ (build34_z _) ?_
    | (refine wpList_store_all rfl 50 (.tmp 4) (.tmp 15) rfl (w.heap.size + 2) Cm.zero.cells (by rfl) (by rfl) 50 _ HZ4.out (by exact hd76c) (Cm.cells_one _) (by exact rfl) ?_; intro w2 hb2 ho2
       have HE2 := Lib.hid (ho2.below HE1.out (by omega) HE1.out.size)
       have HZ42 := Lib.hid hb2
       have HZ52 := Lib.hid (ho2.blk HZ5.out (by omega))
       clear hb2 ho2)
    | (refine wpList_store_all rfl 29 (.tmp 5) (.tmp 16) rfl (w.heap.size + 3) (u8s z288) (by rfl) (by rfl) 29 _ HZ52.out (by rw [z288_len]; exact hd34) (u8s_one _) (by exact rfl) ?_; intro w3 hb3 ho3
       have HE3 := Lib.hid (ho3.below HE2.out (by omega) HE2.out.size)
       have HZ43 := Lib.hid (ho3.blk HZ42.out (by omega))
       have HZ53 := Lib.hid hb3
       clear hb3 ho3))
  exact bodyPost_ret (res_cct rfl _ _ _ _ _ _ _ rfl rfl HZ43.out _ Try.underlying50 rfl (by exact hd76c) HZ53.out _ Try.underlying29 rfl (by rw [z288_len]; exact hd34)) rfl ⟨rfl, HE3.out⟩
set_option maxRecDepth 100000 in
set_option maxHeartbeats 4000000 in
theorem open_form (s : Sp) (hs : s.ok) (h : List UInt8) (hh : h.length = 288) (hf : fits s h = true) (hd : dce ((plainOf s h).take 32) ≠ 0) (w : World) :
    Calls Try.prog 12 #[.agg (u8s h).toArray, .agg s.cells.toArray] w fun e w' => e = .returned (.tuple #[.agg Cm.zero.cells.toArray, .agg (u8s z288).toArray, .int .i64 3]) ∧ Below w.heap.size w w' := by
  have HF := Lib.hid (fun W => fits_any s hs h hh W)
  rw [hf] at HF
  have HT : Hid (∀ (W : World) (gl gz : Nat), Blk W gl 43 [.slice (some ⟨w.heap.size, 48, none⟩) 240 240, .slice (some ⟨gz, 0, none⟩) 48 48] → Blk W w.heap.size 29 (u8s h) → Blk W (w.heap.size + 1) 39 s.cells → Blk W gz 5 (u8s (List.replicate 48 0)) →
      Calls Try.prog 17 #[.slice (some ⟨w.heap.size + 1, 32, none⟩) 32 32, .slice (some ⟨gl, 0, none⟩) 2 2] W fun e w' => ∃ g c', e = .returned (.tuple #[.slice (some ⟨g, 0, none⟩) 288 c', .int .i64 0]) ∧ 288 ≤ c' ∧ w'.ownsRow W.heap.size 5 1 (.slice (some ⟨g, 0, none⟩) 288 c') 288 (u8s (plainOf s h)) ∧ Below W.heap.size W w') := fun W gl gz h1 h2 h3 h4 => by
    refine (turn_to (some ⟨w.heap.size + 1, 32, none⟩) 32 s.stream (some ⟨gl, 0, none⟩) 2 2 [(h.drop 48).take 240, List.replicate 48 0] ((h.drop 48).take 240 ++ List.replicate 48 0) 288 W (Sp.rd h3 hs 32 s.stream (by omega) (Sp.at_stream hs))
      (RdB.of_blk h1 ⟨.of_blk h2 48 240 240 _ (by rw [u8s_length, hh]; omega) (by omega) (by rw [u8s_drop, u8s_take]), .of_blk h4 0 48 48 _ (by rw [u8s_length, List.length_replicate]; omega) (by omega) (by rw [List.drop_zero, List.take_of_length_le (by rw [u8s_length, List.length_replicate]; omega)]), trivial⟩) (by omega) (by simp) (by simp [hh]) (by omega)).mono ?_
    rintro e w' ⟨A', c', rfl, hc', ho, hB⟩
    obtain ⟨g, rfl, _⟩ := own_pos ho (by omega)
    exact ⟨g, c', rfl, hc', ho, hB⟩
  have hmk : ∀ W, (Instr.makeSlice 43 (.int .i64 48) (.int .i64 48)).run Try.prog W = .ok (.slice (some ⟨W.heap.size, 0, none⟩) 48 48) (W.alloc (.cells (u8s (List.replicate 48 0)).toArray 5)) := fun W => by kernel_rfl
  have hpl := plainOf_len s hh
  have HD : Hid (∀ (W : World) (g c : Nat), 32 ≤ c → Rd W (some ⟨g, 0, none⟩) 288 (u8s (plainOf s h)) → Calls Try.prog 23 #[.slice (some ⟨g, 0, none⟩) 32 c] W fun e w' => e = .returned (.tuple #[.agg (if dce ((plainOf s h).take 32) = 0 then (dcm ((plainOf s h).take 32)).cells else Cm.zero.cells).toArray, .int .i64 (dce ((plainOf s h).take 32) : Int)]) ∧ Below W.heap.size W w') := fun W g c hc hr => by
    have h5 := rd_mid hr 0 32 (by omega)
    rw [List.drop_zero, Nat.zero_add] at h5
    exact cdec_any _ c _ W h5 hc
  obtain ⟨R, hR⟩ : ∃ R, R = (if dce ((plainOf s h).take 32) = 0 then (dcm ((plainOf s h).take 32)).cells else Cm.zero.cells) := ⟨_, rfl⟩
  rw [← hR] at HD
  have hpl2 : ((plainOf s h).take 32).length = 32 := by rw [List.length_take, hpl]; rfl
  have HRL : Hid (R.length = 20) := by show _ = _; rw [hR]; split <;> first | exact Cm.cells_len (dcm_ok hpl2) | rfl
  have HR1 : Hid (∀ v ∈ R, v.oneCell' = true) := by show ∀ v ∈ R, _; rw [hR]; split <;> exact Cm.cells_one _
  rw [if_neg hd] at hR
  have HR0 : Hid (R[0]? = some (.int .u8 0)) := by rw [hR]; rfl
  have hd0 : ((dce ((plainOf s h).take 32) : Int) != 0) = true := by rw [bne_iff_ne]; omega
  generalize (dce ((plainOf s h).take 32)) = E at *
  clear hR hpl2 hd
  have hsl := Sp.cells_len hs
  have hhl : (u8s h).length = 288 := by rw [u8s_length, hh]
  generalize u8s h = U at *
  generalize s.cells = S at *
  clear hs hh hf hpl
  have hb2 : Blk ((((w.alloc (.cells U.toArray 29)).alloc (.cells S.toArray 39)).alloc (.cells Cm.zero.cells.toArray 50)).alloc (.cells Try.zeroCells29 29)) w.heap.size 29 U := (((Blk.new w _ _).alloc _).alloc _).alloc _
  have hb3 : Blk ((((w.alloc (.cells U.toArray 29)).alloc (.cells S.toArray 39)).alloc (.cells Cm.zero.cells.toArray 50)).alloc (.cells Try.zeroCells29 29)) (w.heap.size + 1) 39 S := ((Blk.new' (by simp) rfl).alloc _).alloc _
  have hb4 : Blk ((((w.alloc (.cells U.toArray 29)).alloc (.cells S.toArray 39)).alloc (.cells Cm.zero.cells.toArray 50)).alloc (.cells Try.zeroCells29 29)) (w.heap.size + 2) 50 Cm.zero.cells := (Blk.new' (by simp) rfl).alloc _
  have hb5 : Blk ((((w.alloc (.cells U.toArray 29)).alloc (.cells S.toArray 39)).alloc (.cells Cm.zero.cells.toArray 50)).alloc (.cells Try.zeroCells29 29)) (w.heap.size + 3) 29 (u8s z288) := Blk.new' (by simp) zc34'
  have hE : Below w.heap.size w ((((w.alloc (.cells U.toArray 29)).alloc (.cells S.toArray 39)).alloc (.cells Cm.zero.cells.toArray 50)).alloc (.cells Try.zeroCells29 29)) := ((((Below.refl _ w).alloc (Nat.le_refl _) _).alloc (by simp) _).alloc (by simp; omega) _).alloc (by simp; omega) _
  have hl1 : ∀ o1 o2, (ldAt 29 (.pointer (some ⟨w.heap.size, 0, none⟩))).run Try.prog ((((w.alloc (.cells U.toArray 29)).alloc (.cells S.toArray 39)).alloc o1).alloc o2) = .ok (.agg U.toArray) ((((w.alloc (.cells U.toArray 29)).alloc (.cells S.toArray 39)).alloc o1).alloc o2) := fun o1 o2 => hd_ld ((((Blk.new w _ _).alloc _).alloc o1).alloc o2) hhl
  have hl2 : ∀ o1 o2, (ldAt 39 (.pointer (some ⟨w.heap.size + 1, 0, none⟩))).run Try.prog ((((w.alloc (.cells U.toArray 29)).alloc (.cells S.toArray 39)).alloc o1).alloc o2) = .ok (.agg S.toArray) ((((w.alloc (.cells U.toArray 29)).alloc (.cells S.toArray 39)).alloc o1).alloc o2) := fun o1 o2 => sp_ld (((Blk.new' (by simp) rfl).alloc o1).alloc o2) hsl
  have HB2 := Lib.hid hb2
  have HB3 := Lib.hid hb3
  have HB4 := Lib.hid hb4
  have HB5 := Lib.hid hb5
  have HE := Lib.hid hE
  clear hb2 hb3 hb4 hb5 hE hsl hhl
  go_enter Try.func12, Try.ntmps12
  go_upto_region 3 with (go_at_call 7; (with_reducible refine (HF.out _).mono ?_); rintro e w1 ⟨rfl, hB1⟩; have HE1 := Lib.hid (HE.out.trans (hB1.mono (by simp; omega))); have HZ2 := qbl HB2 hB1; have HZ3 := qbl HB3 hB1; have HZ4 := qbl HB4 hB1; have HZ5 := qbl HB5 hB1; clear hB1)
  go_region_held3 (fun _ => True) (trivial) ((go_at_call 17; (refine (HT.out _ _ _ (by repeat (first | exact Blk.new' (by simp) rfl | apply Blk.drew | apply Blk.alloc)) (by repeat (first | exact HZ2.out | apply Blk.drew | apply Blk.alloc)) (by repeat (first | exact HZ3.out | apply Blk.drew | apply Blk.alloc)) (by repeat (first | exact Blk.new' (by simp) rfl | apply Blk.drew | apply Blk.alloc))).mono ?_); rintro e w4 ⟨g4, c4, rfl, hc4, hown4, hB4⟩))
  have HS4 : Hid (Below w1.heap.size w1 w4) := (((Below.refl _ w1).drew.alloc (by simp) _).alloc (by simp <;> omega) _).trans (hB4.mono (by simp <;> omega))
  have hs1 := HE1.out.size
  have hz4 := HZ4.out.lt
  have hz5 := HZ5.out.lt
  have hs4 := HS4.out.size
  have HE4 := Lib.hid (HE1.out.trans (HS4.out.mono hs1))
  have HY4 := Lib.hid (HZ4.out.below HS4.out HZ4.out.lt)
  have HY5 := Lib.hid (HZ5.out.below HS4.out HZ5.out.lt)
  have HR4 := Lib.hid (Rd.of_own hown4)
  have hc32 : 32 ≤ c4 := by omega
  clear hown4 hB4 HT
  go_wp2_with (first
    | (go_at_call 23; (with_reducible refine (HD.out _ _ _ (by exact hc32) (by exact HR4.out)).mono ?_); rintro e w5 ⟨rfl, hB5⟩
       have HE5 := qtr HE4 hB5
       have HX4 := qbl HY4 hB5
       have HX5 := qbl HY5 hB5
       have hs5 := hB5.size
       clear hB5)
    | refine wpList_build rfl 50 [] rfl [] (by rfl) _ (build_cm0 _) ?_
    | refine wpList_build rfl 29 [] rfl [] (by rfl) _ (build34_z _) ?_
    | (refine wpList_store_all rfl 50 (.tmp 9) (.tmp 37) rfl w5.heap.size R (by rfl) (by rfl) 50 Cm.zero.cells (by exact Blk.new' rfl rfl) (by rw [HRL.out]; exact hd76c) HR1.out (by rw [HRL.out]; rfl) ?_; intro w6 hb6 ho6
       have HE6 := Lib.hid (ho6.below (HE5.out.alloc HE5.out.size _) HE5.out.size (Nat.le_trans HE5.out.size (by simp)))
       have HV4 := Lib.hid (ho6.blk (HX4.out.alloc _) (by omega))
       have HV5 := Lib.hid (ho6.blk (HX5.out.alloc _) (by omega))
       have HV9 := Lib.hid hb6
       have c90 := (hb6.cell 0).trans HR0.out
       have hl9 := cm_ld hb6 HRL.out
       clear hb6 ho6)
    | (refine wpList_store_all rfl 50 (.tmp 4) (.tmp 41) rfl (w.heap.size + 2) Cm.zero.cells (by rfl) (by rfl) 50 _ HV4.out (by exact hd76c) (Cm.cells_one _) (by exact rfl) ?_; intro w7 hb7 ho7
       have HE7 := Lib.hid (ho7.below HE6.out (by omega) HE6.out.size)
       have HU4 := Lib.hid hb7
       have HU5 := Lib.hid (ho7.blk HV5.out (by omega))
       clear hb7 ho7)
    | (refine wpList_store_all rfl 29 (.tmp 5) (.tmp 42) rfl (w.heap.size + 3) (u8s z288) (by rfl) (by rfl) 29 _ HU5.out (by rw [z288_len]; exact hd34) (u8s_one _) (by exact rfl) ?_; intro w8 hb8 ho8
       have HE8 := Lib.hid (ho8.below HE7.out (by omega) HE7.out.size)
       have HW4 := Lib.hid (ho8.blk HU4.out (by omega))
       have HW5 := Lib.hid hb8
       clear hb8 ho8))
  exact bodyPost_ret (res_cct rfl _ _ _ _ _ _ _ rfl rfl HW4.out _ Try.underlying50 rfl (by exact hd76c) HW5.out _ Try.underlying29 rfl (by rw [z288_len]; exact hd34)) rfl ⟨rfl, HE8.out⟩
set_option maxRecDepth 100000 in
set_option maxHeartbeats 4000000 in
theorem open_last (s : Sp) (hs : s.ok) (h : List UInt8) (hh : h.length = 288) (hf : fits s h = true) (hd : dce ((plainOf s h).take 32) = 0) (hk : (dcm ((plainOf s h).take 32)).k ≠ 1) (w : World) :
    Calls Try.prog 12 #[.agg (u8s h).toArray, .agg s.cells.toArray] w fun e w' => e = .returned (.tuple #[.agg (dcm ((plainOf s h).take 32)).cells.toArray, .agg (u8s z288).toArray, .int .i64 0]) ∧ Below w.heap.size w w' := by
  have HF := Lib.hid (fun W => fits_any s hs h hh W)
  rw [hf] at HF
  have HT : Hid (∀ (W : World) (gl gz : Nat), Blk W gl 43 [.slice (some ⟨w.heap.size, 48, none⟩) 240 240, .slice (some ⟨gz, 0, none⟩) 48 48] → Blk W w.heap.size 29 (u8s h) → Blk W (w.heap.size + 1) 39 s.cells → Blk W gz 5 (u8s (List.replicate 48 0)) →
      Calls Try.prog 17 #[.slice (some ⟨w.heap.size + 1, 32, none⟩) 32 32, .slice (some ⟨gl, 0, none⟩) 2 2] W fun e w' => ∃ g c', e = .returned (.tuple #[.slice (some ⟨g, 0, none⟩) 288 c', .int .i64 0]) ∧ 288 ≤ c' ∧ w'.ownsRow W.heap.size 5 1 (.slice (some ⟨g, 0, none⟩) 288 c') 288 (u8s (plainOf s h)) ∧ Below W.heap.size W w') := fun W gl gz h1 h2 h3 h4 => by
    refine (turn_to (some ⟨w.heap.size + 1, 32, none⟩) 32 s.stream (some ⟨gl, 0, none⟩) 2 2 [(h.drop 48).take 240, List.replicate 48 0] ((h.drop 48).take 240 ++ List.replicate 48 0) 288 W (Sp.rd h3 hs 32 s.stream (by omega) (Sp.at_stream hs))
      (RdB.of_blk h1 ⟨.of_blk h2 48 240 240 _ (by rw [u8s_length, hh]; omega) (by omega) (by rw [u8s_drop, u8s_take]), .of_blk h4 0 48 48 _ (by rw [u8s_length, List.length_replicate]; omega) (by omega) (by rw [List.drop_zero, List.take_of_length_le (by rw [u8s_length, List.length_replicate]; omega)]), trivial⟩) (by omega) (by simp) (by simp [hh]) (by omega)).mono ?_
    rintro e w' ⟨A', c', rfl, hc', ho, hB⟩
    obtain ⟨g, rfl, _⟩ := own_pos ho (by omega)
    exact ⟨g, c', rfl, hc', ho, hB⟩
  have hmk : ∀ W, (Instr.makeSlice 43 (.int .i64 48) (.int .i64 48)).run Try.prog W = .ok (.slice (some ⟨W.heap.size, 0, none⟩) 48 48) (W.alloc (.cells (u8s (List.replicate 48 0)).toArray 5)) := fun W => by kernel_rfl
  have hpl := plainOf_len s hh
  have HD : Hid (∀ (W : World) (g c : Nat), 32 ≤ c → Rd W (some ⟨g, 0, none⟩) 288 (u8s (plainOf s h)) → Calls Try.prog 23 #[.slice (some ⟨g, 0, none⟩) 32 c] W fun e w' => e = .returned (.tuple #[.agg (if dce ((plainOf s h).take 32) = 0 then (dcm ((plainOf s h).take 32)).cells else Cm.zero.cells).toArray, .int .i64 (dce ((plainOf s h).take 32) : Int)]) ∧ Below W.heap.size W w') := fun W g c hc hr => by
    have h5 := rd_mid hr 0 32 (by omega)
    rw [List.drop_zero, Nat.zero_add] at h5
    exact cdec_any _ c _ W h5 hc
  obtain ⟨R, hR⟩ : ∃ R, R = (if dce ((plainOf s h).take 32) = 0 then (dcm ((plainOf s h).take 32)).cells else Cm.zero.cells) := ⟨_, rfl⟩
  rw [← hR] at HD
  have hpl2 : ((plainOf s h).take 32).length = 32 := by rw [List.length_take, hpl]; rfl
  have HRL : Hid (R.length = 20) := by show _ = _; rw [hR]; split <;> first | exact Cm.cells_len (dcm_ok hpl2) | rfl
  have HR1 : Hid (∀ v ∈ R, v.oneCell' = true) := by show ∀ v ∈ R, _; rw [hR]; split <;> exact Cm.cells_one _
  rw [hd, if_pos rfl] at hR
  rw [hd] at HD
  have HR0 : Hid (R[0]? = some (.int .u8 (dcm ((plainOf s h).take 32)).k.toNat)) := by rw [hR]; rfl
  have hk1 : (((dcm ((plainOf s h).take 32)).k.toNat : Int) != 1) = true := by
    rw [bne_iff_ne]
    exact fun h2 => hk (UInt8.toNat_inj.1 (by show _ = 1; omega))
  rw [← hR]
  generalize (dcm ((plainOf s h).take 32)).k = k at *
  clear hR hpl2 hd hk
  have hsl := Sp.cells_len hs
  have hhl : (u8s h).length = 288 := by rw [u8s_length, hh]
  generalize u8s h = U at *
  generalize s.cells = S at *
  clear hs hh hf hpl
  have hb2 : Blk ((((w.alloc (.cells U.toArray 29)).alloc (.cells S.toArray 39)).alloc (.cells Cm.zero.cells.toArray 50)).alloc (.cells Try.zeroCells29 29)) w.heap.size 29 U := (((Blk.new w _ _).alloc _).alloc _).alloc _
  have hb3 : Blk ((((w.alloc (.cells U.toArray 29)).alloc (.cells S.toArray 39)).alloc (.cells Cm.zero.cells.toArray 50)).alloc (.cells Try.zeroCells29 29)) (w.heap.size + 1) 39 S := ((Blk.new' (by simp) rfl).alloc _).alloc _
  have hb4 : Blk ((((w.alloc (.cells U.toArray 29)).alloc (.cells S.toArray 39)).alloc (.cells Cm.zero.cells.toArray 50)).alloc (.cells Try.zeroCells29 29)) (w.heap.size + 2) 50 Cm.zero.cells := (Blk.new' (by simp) rfl).alloc _
  have hb5 : Blk ((((w.alloc (.cells U.toArray 29)).alloc (.cells S.toArray 39)).alloc (.cells Cm.zero.cells.toArray 50)).alloc (.cells Try.zeroCells29 29)) (w.heap.size + 3) 29 (u8s z288) := Blk.new' (by simp) zc34'
  have hE : Below w.heap.size w ((((w.alloc (.cells U.toArray 29)).alloc (.cells S.toArray 39)).alloc (.cells Cm.zero.cells.toArray 50)).alloc (.cells Try.zeroCells29 29)) := ((((Below.refl _ w).alloc (Nat.le_refl _) _).alloc (by simp) _).alloc (by simp; omega) _).alloc (by simp; omega) _
  have hl1 : ∀ o1 o2, (ldAt 29 (.pointer (some ⟨w.heap.size, 0, none⟩))).run Try.prog ((((w.alloc (.cells U.toArray 29)).alloc (.cells S.toArray 39)).alloc o1).alloc o2) = .ok (.agg U.toArray) ((((w.alloc (.cells U.toArray 29)).alloc (.cells S.toArray 39)).alloc o1).alloc o2) := fun o1 o2 => hd_ld ((((Blk.new w _ _).alloc _).alloc o1).alloc o2) hhl
  have hl2 : ∀ o1 o2, (ldAt 39 (.pointer (some ⟨w.heap.size + 1, 0, none⟩))).run Try.prog ((((w.alloc (.cells U.toArray 29)).alloc (.cells S.toArray 39)).alloc o1).alloc o2) = .ok (.agg S.toArray) ((((w.alloc (.cells U.toArray 29)).alloc (.cells S.toArray 39)).alloc o1).alloc o2) := fun o1 o2 => sp_ld (((Blk.new' (by simp) rfl).alloc o1).alloc o2) hsl
  have HB2 := Lib.hid hb2
  have HB3 := Lib.hid hb3
  have HB4 := Lib.hid hb4
  have HB5 := Lib.hid hb5
  have HE := Lib.hid hE
  clear hb2 hb3 hb4 hb5 hE hsl hhl
  go_enter Try.func12, Try.ntmps12
  go_upto_region 3 with (go_at_call 7; (with_reducible refine (HF.out _).mono ?_); rintro e w1 ⟨rfl, hB1⟩; have HE1 := Lib.hid (HE.out.trans (hB1.mono (by simp; omega))); have HZ2 := qbl HB2 hB1; have HZ3 := qbl HB3 hB1; have HZ4 := qbl HB4 hB1; have HZ5 := qbl HB5 hB1; clear hB1)
  go_region_held3 (fun _ => True) (trivial) ((go_at_call 17; (refine (HT.out _ _ _ (by repeat (first | exact Blk.new' (by simp) rfl | apply Blk.drew | apply Blk.alloc)) (by repeat (first | exact HZ2.out | apply Blk.drew | apply Blk.alloc)) (by repeat (first | exact HZ3.out | apply Blk.drew | apply Blk.alloc)) (by repeat (first | exact Blk.new' (by simp) rfl | apply Blk.drew | apply Blk.alloc))).mono ?_); rintro e w4 ⟨g4, c4, rfl, hc4, hown4, hB4⟩))
  have HS4 : Hid (Below w1.heap.size w1 w4) := (((Below.refl _ w1).drew.alloc (by simp) _).alloc (by simp <;> omega) _).trans (hB4.mono (by simp <;> omega))
  have hs1 := HE1.out.size
  have hz4 := HZ4.out.lt
  have hz5 := HZ5.out.lt
  have hs4 := HS4.out.size
  have HE4 := Lib.hid (HE1.out.trans (HS4.out.mono hs1))
  have HY4 := Lib.hid (HZ4.out.below HS4.out HZ4.out.lt)
  have HY5 := Lib.hid (HZ5.out.below HS4.out HZ5.out.lt)
  have HR4 := Lib.hid (Rd.of_own hown4)
  have hc32 : 32 ≤ c4 := by omega
  clear hown4 hB4 HT
  go_wp2_with (first
    | (go_at_call 23; (with_reducible refine (HD.out _ _ _ (by exact hc32) (by exact HR4.out)).mono ?_); rintro e w5 ⟨rfl, hB5⟩
       have HE5 := qtr HE4 hB5
       have HX4 := qbl HY4 hB5
       have HX5 := qbl HY5 hB5
       have hs5 := hB5.size
       clear hB5)
    | refine wpList_build rfl 50 [] rfl [] (by rfl) _ (build_cm0 _) ?_
    | refine wpList_build rfl 29 [] rfl [] (by rfl) _ (build34_z _) ?_
    | (refine wpList_store_all rfl 50 (.tmp 9) (.tmp 37) rfl w5.heap.size R (by rfl) (by rfl) 50 Cm.zero.cells (by exact Blk.new' rfl rfl) (by rw [HRL.out]; exact hd76c) HR1.out (by rw [HRL.out]; rfl) ?_; intro w6 hb6 ho6
       have HE6 := Lib.hid (ho6.below (HE5.out.alloc HE5.out.size _) HE5.out.size (Nat.le_trans HE5.out.size (by simp)))
       have HV4 := Lib.hid (ho6.blk (HX4.out.alloc _) (by omega))
       have HV5 := Lib.hid (ho6.blk (HX5.out.alloc _) (by omega))
       have HV9 := Lib.hid hb6
       have c90 := (hb6.cell 0).trans HR0.out
       have hl9 := cm_ld hb6 HRL.out
       clear hb6 ho6)
    | (refine wpList_store_all rfl 50 (.tmp 4) (.tmp 46) rfl (w.heap.size + 2) R (by rfl) (by rfl) 50 _ HV4.out (by rw [HRL.out]; exact hd76c) HR1.out (by rw [HRL.out]; rfl) ?_; intro w7 hb7 ho7
       have HE7 := Lib.hid (ho7.below HE6.out (by omega) HE6.out.size)
       have HU4 := Lib.hid hb7
       have HU5 := Lib.hid (ho7.blk HV5.out (by omega))
       clear hb7 ho7)
    | (refine wpList_store_all rfl 29 (.tmp 5) (.tmp 47) rfl (w.heap.size + 3) (u8s z288) (by rfl) (by rfl) 29 _ HU5.out (by rw [z288_len]; exact hd34) (u8s_one _) (by exact rfl) ?_; intro w8 hb8 ho8
       have HE8 := Lib.hid (ho8.below HE7.out (by omega) HE7.out.size)
       have HW4 := Lib.hid (ho8.blk HU4.out (by omega))
       have HW5 := Lib.hid hb8
       clear hb8 ho8))
  exact bodyPost_ret (res_cct rfl _ _ _ _ _ _ _ rfl rfl HW4.out _ Try.underlying50 rfl (by exact (by rw [HRL.out]; exact hd76c)) HW5.out _ Try.underlying29 rfl (by rw [z288_len]; exact hd34)) rfl ⟨rfl, HE8.out⟩
end Go.Proofs.Ytlbnibmcflmohaa
