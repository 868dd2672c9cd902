/- Part of the proof: Awp, Stq, Stp. -/
import Derived.Great.BuildSlice
import Derived.Test.YtlbnibmcflmohaaFlx46
namespace Go.Proofs.Ytlbnibmcflmohaa
open Go.RowKit
theorem fits_head {c : Cm} {s : Sp} {f P : List UInt8} {m : Nat} (hc : c.ok) (hs : s.ok) (hf : f.length ≤ 208) (hP : P.length = 288) : fits s (headOf c s f m P) = true := by
  have hb := betaOf_len (s := s) (m := m) hc hf hP
  unfold fits headOf
  rw [decide_eq_true_iff]
  have e1 : ((s.alpha ++ ((Mc.tag s.mac (s.alpha ++ betaOf c s f m P)).take 16 ++ betaOf c s f m P)).drop 32).take 16 = (Mc.tag s.mac (s.alpha ++ betaOf c s f m P)).take 16 := by
    rw [List.drop_left' hs.2.2.2.2.1, List.take_left' (by rw [List.length_take, Mc.tag_len]; rfl)]
  have e2 : ((s.alpha ++ ((Mc.tag s.mac (s.alpha ++ betaOf c s f m P)).take 16 ++ betaOf c s f m P)).drop 48).take 240 = betaOf c s f m P := by
    rw [← List.append_assoc, List.drop_left' (by rw [List.length_append, hs.2.2.2.2.1, List.length_take, Mc.tag_len]; rfl), List.take_of_length_le (by omega)]
  rw [e1, tagOf, e2, List.take_left' hs.2.2.2.2.1]
theorem xor_append {a b c d : List UInt8} (h : a.length = c.length) : Ch.xor (a ++ b) (c ++ d) = Ch.xor a c ++ Ch.xor b d := List.zipWith_append h
theorem turn_append (key a b : List UInt8) : Ch.turn key (a ++ b) = Ch.turn key a ++ Ch.xor b (Ch.piece key a.length b.length) := by
  unfold Ch.turn
  rw [List.length_append, Ch.piece_add, xor_append (Ch.piece_len _ _ _).symm, Nat.zero_add]
theorem turn_back (key x y : List UInt8) : (Ch.turn key (Ch.turn key x ++ y)).take x.length = x := by
  rw [turn_append, Ch.turn_turn, List.take_left]
theorem plain_head {c : Cm} {s : Sp} {f P : List UInt8} {m : Nat} (hc : c.ok) (hs : s.ok) (hf : f.length ≤ 208) (hP : P.length = 288) : (plainOf s (headOf c s f m P)).take 32 = c.enc := by
  have hb := betaOf_len (s := s) (m := m) hc hf hP
  have e2 : ((headOf c s f m P).drop 48).take 240 = betaOf c s f m P := by
    unfold headOf
    rw [← List.append_assoc, List.drop_left' (by rw [List.length_append, hs.2.2.2.2.1, List.length_take, Mc.tag_len]; rfl), List.take_of_length_le (by omega)]
  have hel := Cm.enc_len hc
  unfold plainOf
  rw [e2]
  have key : ∀ x y z, x.length = 32 → (Ch.turn s.stream ((Ch.turn s.stream (x ++ y)) ++ z)).take 32 = x := fun x y z hx => by
    have h1 := turn_back s.stream (x ++ y) z
    have h2 := congrArg (List.take 32) h1
    rw [List.take_take, Nat.min_eq_left (by rw [List.length_append]; omega), List.take_left' hx] at h2
    exact h2
  unfold betaOf
  split
  · rw [List.append_assoc]; exact key _ _ _ hel
  · exact key _ _ _ hel
section
variable {P : Program} {w : World} {ops : Array Oper} {rest : List Oper} {o : Oper} {a : Act} {K : Act → World → Prop} {Q : Exit → Act → World → Prop}
theorem wp_slice1 (t e : TypeId) (x : Operand) (ho : o.op = .buildSlice t 1 #[(0, x)]) (cs : List Value) (hx : a.eval x = .agg cs.toArray) (hu : P.underlying t = some (.slice e)) (hi : (P.info? e).map (fun i => ((i.zero.map (fun z => z.cells.size)), i.size)) = some (some cs.length, cs.length)) (hpos : 0 < cs.length) (hsm : cs.length ≤ 16777216)
    (h : K (a.put o.dst (.slice (some ⟨w.heap.size, 0, none⟩) 1 1)) (w.alloc (.cells cs.toArray e))) : o.wp P a w K Q := by
  cases hie : P.info? e with
  | none => simp [hie] at hi
  | some ie =>
    cases hz : ie.zero with
    | none => simp [hie, hz] at hi
    | some z =>
      simp only [hie, hz, Option.map_some, Option.some.injEq, Prod.mk.injEq] at hi
      refine wp_buildSlice t e 1 #[(0, x)] ho cs.toArray ie z hu hie hz (by rw [hi.2]; omega) (by rw [hi.2]; omega) ?_ h
      have h1 : (#[(0, x)].map fun (p : Nat × Operand) => (p.1, a.eval p.2)).toList = [(0, .agg cs.toArray)] := by simp [hx]
      have h2 : ∃ Z : List Value, ((Array.range (1 * ie.size)).map (z.cells[· % z.cells.size]!)) = Z.toArray ∧ Z.length = cs.length := ⟨((Array.range (1 * ie.size)).map (z.cells[· % z.cells.size]!)).toList, Array.toArray_toList.symm, by simp [hi.2]⟩
      obtain ⟨Z, hZ, hZl⟩ := h2
      show Instr.fill _ _ (#[(0, x)].map fun (p : Nat × Operand) => (p.1, a.eval p.2)).toList = _
      rw [h1, hZ, fill_cons (cs := cs) (off := 0) rfl (by simp [hi.2]) (by omega), splice_whole _ _ hZl.symm]
      rfl
theorem wpList_slice1 (hgd : o.guard = none) (t e : TypeId) (x : Operand) (ho : o.op = .buildSlice t 1 #[(0, x)]) (cs : List Value) (hx : a.eval x = .agg cs.toArray) (hu : P.underlying t = some (.slice e)) (hi : (P.info? e).map (fun i => ((i.zero.map (fun z => z.cells.size)), i.size)) = some (some cs.length, cs.length)) (hpos : 0 < cs.length) (hsm : cs.length ≤ 16777216)
    (h : wpList P ops Q rest (a.put o.dst (.slice (some ⟨w.heap.size, 0, none⟩) 1 1)) (w.alloc (.cells cs.toArray e))) : wpList P ops Q (o :: rest) a w :=
  wpList_of hgd fun _ hK => wp_slice1 t e x ho cs hx hu hi hpos hsm (hK _ _ h)
end
theorem z1cm : (Try.prog.info? 50).map (fun i => ((i.zero.map (fun z => z.cells.size)), i.size)) = some (some 20, 20) := by kernel_rfl
theorem z1sp : (Try.prog.info? 39).map (fun i => ((i.zero.map (fun z => z.cells.size)), i.size)) = some (some 192, 192) := by kernel_rfl
end Go.Proofs.Ytlbnibmcflmohaa
namespace Go.Proofs.Ytlbnibmcflmohaa
open Go.RowKit
theorem hd67 : (Try.prog.info? 37).map (·.size) = some 128 := by kernel_rfl
theorem hd72 : (Try.prog.info? 42).map (·.size) = some 192 := by kernel_rfl
def places69 : Array (Nat × Nat) := #[(0, 128), (128, 32), (160, 32)]
theorem pl69 (fields : Array Field) (h : Try.prog.underlying 39 = some (.struct fields)) (w : World) : (fields.mapM (fun f => do pure (f.offset, ← sizeOf f.type)) : Sem (Array (Nat × Nat))).run Try.prog w = .ok places69 w := by
  rw [Try.underlying39] at h
  injection h with h
  injection h with h
  subst h
  kernel_rfl
def Sp.keys (s : Sp) : List UInt8 := s.mac ++ (s.stream ++ (s.pay ++ s.blind))
theorem Sp.bytes_is (s : Sp) : s.bytes = s.keys ++ (s.alpha ++ s.secret) := by simp [Sp.bytes, Sp.keys]
theorem Sp.keys_len {s : Sp} (h : s.ok) : s.keys.length = 128 := by simp [Sp.keys, h.1, h.2.1, h.2.2.1, h.2.2.2.1]
theorem bld_sp (s : Sp) (h : s.ok) (w : World) : (Instr.build 39 #[(0, .agg (u8s s.keys).toArray), (1, .agg (u8s s.alpha).toArray), (2, .agg (u8s s.secret).toArray)]).run Try.prog w = .ok (.agg s.cells.toArray) w := by
  have e0 : (u8s s.keys).length = 128 := by rw [u8s_length, Sp.keys_len h]
  have e1 : (u8s s.alpha).length = 32 := by rw [u8s_length, h.2.2.2.2.1]
  have e2 : (u8s s.secret).length = 32 := by rw [u8s_length, h.2.2.2.2.2]
  refine run_build Try.zeroValue39 Try.underlying39 (pl69 _ Try.underlying39) ?_ w
  rw [zcSp]
  show Instr.fill _ _ [(0, _), (1, _), (2, _)] = _
  rw [fill_cons (cs := u8s s.keys) rfl (by rw [e0]; rfl) (by rw [e0, u8s_length, List.length_replicate]; omega),
    fill_cons (cs := u8s s.alpha) rfl (by rw [e1]; rfl) (by rw [length_splice _ _ _ (by rw [e0, u8s_length, List.length_replicate]; omega), e1, u8s_length, List.length_replicate]; omega),
    fill_cons (cs := u8s s.secret) rfl (by rw [e2]; rfl) (by rw [length_splice _ _ _ (by rw [length_splice _ _ _ (by rw [e0, u8s_length, List.length_replicate]; omega), e1, u8s_length, List.length_replicate]; omega), length_splice _ _ _ (by rw [e0, u8s_length, List.length_replicate]; omega), e2, u8s_length, List.length_replicate]; omega)]
  have : splice (splice (splice (u8s (List.replicate 192 0)) 0 (u8s s.keys)) 128 (u8s s.alpha)) 160 (u8s s.secret) = s.cells := by
    rw [splice_splice_splice _ _ _ _ 128 32 e0 e1 (by rw [u8s_length, List.length_replicate, e2])]
    rw [Sp.cells, Sp.bytes_is, u8s_append, u8s_append]
  rw [this]
  rfl
theorem ldq_67 (v : Value) : Instr.loadAt 37 v = ldAt 37 v := rfl
theorem ldq_24 (v : Value) : Instr.loadAt 25 v = ldAt 25 v := rfl
attribute [local go_sem ↓] ldq_67 ldq_24
set_option maxRecDepth 100000 in
set_option maxHeartbeats 1000000 in
theorem law13step_any (s : Sp) (h : s.ok) (w : World) : Calls Try.prog 8 #[.agg s.cells.toArray] w fun e w' => e = .returned (.agg s.cells.toArray) ∧ Below w.heap.size w w' := by
  have hl := Sp.cells_len h
  have HBD := Lib.hid (fun W => bld_sp s h W)
  have HS1 := Lib.hid (Sp.cells_one s)
  have hb : ∀ o, Blk ((w.alloc (.cells s.cells.toArray 42)).alloc o) w.heap.size 42 s.cells := fun o => (Blk.new w _ _).alloc o
  have k1 := Sp.keys_len h
  have h1 : ∀ o, (ldAt 37 (.pointer (some ⟨w.heap.size, 0, none⟩))).run Try.prog ((w.alloc (.cells s.cells.toArray 42)).alloc o) = .ok (.agg (u8s s.keys).toArray) ((w.alloc (.cells s.cells.toArray 42)).alloc o) := fun o =>
    ldAt_run (hb o) _ 0 (u8s s.keys) (by rw [u8s_length, k1, Sp.cells, Sp.bytes_is, List.drop_zero, u8s_take, List.take_left' k1]) _ Try.underlying37 rfl (by rw [u8s_length, k1]; exact hd67)
  have h2 : ∀ o, (ldAt 25 (.pointer (some ⟨w.heap.size, 128, none⟩))).run Try.prog ((w.alloc (.cells s.cells.toArray 42)).alloc o) = .ok (.agg (u8s s.alpha).toArray) ((w.alloc (.cells s.cells.toArray 42)).alloc o) := fun o =>
    ldAt_run (hb o) _ 128 (u8s s.alpha) (by rw [u8s_length, h.2.2.2.2.1, Sp.cells, u8s_drop, u8s_take, Sp.at_alpha h]) _ Try.underlying25 rfl (by rw [u8s_length, h.2.2.2.2.1]; exact hd24)
  have h3 : ∀ o, (ldAt 25 (.pointer (some ⟨w.heap.size, 160, none⟩))).run Try.prog ((w.alloc (.cells s.cells.toArray 42)).alloc o) = .ok (.agg (u8s s.secret).toArray) ((w.alloc (.cells s.cells.toArray 42)).alloc o) := fun o =>
    ldAt_run (hb o) _ 160 (u8s s.secret) (by
      have e : s.bytes = (s.keys ++ s.alpha) ++ s.secret := by rw [Sp.bytes_is, List.append_assoc]
      rw [u8s_length, h.2.2.2.2.2, Sp.cells, u8s_drop, u8s_take, e, List.drop_left' (by rw [List.length_append, k1, h.2.2.2.2.1]), List.take_of_length_le (by rw [h.2.2.2.2.2]; exact Nat.le_refl _)]) _ Try.underlying25 rfl (by rw [u8s_length, h.2.2.2.2.2]; exact hd24)
  obtain ⟨C, hC⟩ : ∃ C, C = s.cells := ⟨_, rfl⟩
  rw [← hC] at h1 h2 h3 hl HBD HS1 ⊢
  have HCL := Lib.hid hl
  generalize u8s s.keys = K at *
  generalize u8s s.alpha = AL at *
  generalize u8s s.secret = SE at *
  clear hb k1 hl hC h
  go_enter Try.func8, Try.ntmps8
  go_wp2_with (first
    | refine wpList_build rfl 39 [(0, .tmp 4), (1, .tmp 6), (2, .tmp 8)] rfl _ (by rfl) (.agg C.toArray) (HBD.out _) ?_
    | (refine wpList_store_all rfl 39 (.tmp 2) (.tmp 9) rfl (w.heap.size + 1) C (by rfl) (by rfl) 39 (u8s (List.replicate 192 0)) (by exact Blk.new' (by simp) zcSp) (by rw [HCL.out]; exact hd69) HS1.out (by rw [HCL.out]; rfl) ?_; intro w4 hb4 ho4))
  exact bodyPost_ret (res_cell rfl _ _ _ _ rfl hb4 _ Try.underlying39 rfl (by rw [HCL.out]; exact hd69)) rfl ⟨rfl, ho4.below (((Below.refl _ w).alloc (Nat.le_refl _) _).alloc (by simp) _) (Nat.le_succ _) (by simp; omega)⟩
end Go.Proofs.Ytlbnibmcflmohaa
namespace Go.Proofs.Ytlbnibmcflmohaa
open Go.RowKit
theorem eSp : ElemIs Try.prog 39 192 192 := ElemIs.of (z := .agg (u8s (List.replicate 192 0)).toArray) (by kernel_rfl) (by show (u8s (List.replicate 192 0)).toArray.size = 192; rw [List.size_toArray, u8s_length, List.length_replicate]) (by omega)
theorem eCm : ElemIs Try.prog 50 20 32 := ElemIs.of (z := .agg Cm.zero.cells.toArray) (by kernel_rfl) (by show Cm.zero.cells.toArray.size = 20; rw [List.size_toArray, Cm.cells_len Cm.zero_ok]) (by omega)
theorem ldq_72 (v : Value) : Instr.loadAt 42 v = ldAt 42 v := rfl
theorem zcSr : Try.zeroCells42 = (u8s (List.replicate 192 0)).toArray := by kernel_rfl
attribute [local go_sem ↓] ldq_72
theorem sr_ld {w : World} {g : Nat} {t : TypeId} {C : List Value} (hb : Blk w g t C) (hl : C.length = 192) : (ldAt 42 (.pointer (some ⟨g, 0, none⟩))).run Try.prog w = .ok (.agg C.toArray) w :=
  ldAt_run hb _ 0 C (by rw [List.drop_zero, List.take_of_length_le (Nat.le_refl _)]) _ Try.underlying42 rfl (by rw [hl]; exact hd72)
set_option maxRecDepth 100000 in
set_option maxHeartbeats 4000000 in
theorem steps_any (A : Option Addr) (n c : Nat) (ss : List Sp) (w : World) (h : RdS 192 w A n (ss.flatMap Sp.cells)) (hs : ∀ s ∈ ss, s.ok) (hl : ss.length = n) (hn : n * 192 ≤ 140737488355328) :
    Calls Try.prog 6 #[.slice A n c] w fun e w' => ∃ A' c', e = .returned (.slice A' n c') ∧ n ≤ c' ∧ w'.ownsRow w.heap.size 39 192 (.slice A' n c') n (ss.flatMap Sp.cells) ∧ Below w.heap.size w w' := by
  have HR := Lib.hid h
  have HS := Lib.hid hs
  have HL := Lib.hid hl
  have HO0 : Hid (w.ownsRow w.heap.size 39 192 (.slice none 0 0) 0 ((ss.take 0).flatMap Sp.cells)) := World.ownsRow_nil _ _ _ _
  clear h hs hl
  go_enter Try.func6, Try.ntmps6
  go_wp2_with fail
  go_loopg [3, 8] n (fun kk v q wr => ∃ k : Nat, k ≤ n ∧ kk = n - k ∧ q = .int .i64 k ∧ (∃ A' c', v = .slice A' k c' ∧ k ≤ c' ∧ wr.ownsRow w.heap.size 39 192 (.slice A' k c') k ((ss.take k).flatMap Sp.cells)) ∧ Below w.heap.size w wr)
  case atStart => exact ⟨0, by omega, rfl, rfl, ⟨none, 0, rfl, by omega, HO0.out⟩, Below.refl _ _⟩
  case round =>
    clear HO0
    obtain ⟨k, hk, hgk, rfl, ⟨A', c', rfl, hc', hown⟩, hB⟩ := hrel
    have HGK := Lib.hid hgk
    clear hgk
    by_cases hlt : k < n
    · have hlt2 : (k : Int) < (n : Int) := by omega
      obtain ⟨s, hsi⟩ : ∃ s, ss[k]? = some s := ⟨_, List.getElem?_eq_getElem (by rw [HL.out]; omega)⟩
      have hok := HS.out s (List.mem_of_getElem? hsi)
      obtain ⟨b, off, rfl, hb2, hrg⟩ := sp_range (HR.out.bel hB (Nat.le_refl _)) HS.out hsi (by omega)
      have hld : (ldAt 42 (.pointer (some ⟨b, off + k * 192, none⟩))).run Try.prog wr = .ok (.agg s.cells.toArray) wr := run_loadAt_mid wr b (off + k * 192) 42 s.cells _ hrg Try.underlying42 rfl (by rw [Sp.cells_len hok]; exact hd72)
      have HNX : Hid ((ss.take k).flatMap Sp.cells ++ s.cells = (ss.take (k + 1)).flatMap Sp.cells) := by show _ = _; rw [List.take_add_one, hsi]; simp
      have HSL := Lib.hid (Sp.cells_len hok)
      have HS1 := Lib.hid (Sp.cells_one s)
      have HST := Lib.hid (fun W => law13step_any s hok W)
      generalize s.cells = C at *
      have HI2 : Hid ((Try.prog.info? 39).map (fun i => ((i.zero.map (fun z => z.cells.size)), i.size)) = some (some C.length, C.length)) := by rw [HSL.out]; exact z1sp
      have HOW := Lib.hid hown
      have HB := Lib.hid hB
      have hbs := hB.size
      clear hsi hok hrg hown hB
      go_wp2_with (first
        | (refine wpList_store_all rfl 42 (.tmp 5) (.tmp 11) rfl wr.heap.size C (by rfl) (by rfl) 42 (u8s (List.replicate 192 0)) (by exact Blk.new' rfl zcSr) (by rw [HSL.out]; exact hd72) HS1.out (by rw [HSL.out]; rfl) ?_
           intro w1 hb1 ho1
           have HE1 := Lib.hid (ho1.below (HB.out.alloc hbs _) hbs (Nat.le_trans hbs (by simp)))
           have HO1 := Lib.hid (own_only (HOW.out.alloc _) ho1 (fun k hk => by have h9 := (HOW.out.lt k hk).2; omega))
           have hld2 := sr_ld hb1 HSL.out
           clear hb1 ho1)
        | (go_at_call 8; (with_reducible refine (HST.out _).mono ?_); rintro e w2 ⟨rfl, hB2⟩
           have HE2 := qtr HE1 hB2
           have HO2 := Lib.hid (own_below HO1.out hB2)
           clear hB2)
        | (refine wpList_slice1 rfl 33 39 (.tmp 14) rfl C (by rfl) Try.underlying33 HI2.out (by rw [HSL.out]; omega) (by rw [HSL.out]; omega) ?_)
        | (at_builtin; refine wpList_app rfl (.tmp 12) (.tmp 15) 33 rfl w.heap.size 39 192 192 Try.underlying33 eSp (.slice A' k c') k _ (by rfl) (by exact HO2.out.alloc _) (some ⟨w2.heap.size, 0, none⟩) 1 1 C (by rfl) (by exact RdS.new w2 _ C 192 HSL.out) HS1.out (by omega) (by omega) (by exact Nat.le_trans HE2.out.size (by simp)) ?_
           intro A4 c4 w4 hown4 hc4 hg4 hat4
           have HE4 := Lib.hid ((HE2.out.alloc HE2.out.size _).grown hg4 (Nat.le_trans HE2.out.size (by simp)) (fun k hk => (HOW.out.lt k hk).1))
           rw [HNX.out] at hown4
           have HO4 := Lib.hid hown4
           clear hown4 hg4 hat4))
      go_roundg (n - (k + 1))
      case measure => have := HGK.out; omega
      case rel => exact ⟨k + 1, by omega, rfl, by go_num, ⟨A4, c4, rfl, hc4, HO4.out⟩, HE4.out⟩
    · obtain rfl : k = n := by omega
      have hlt2 : ¬ (k : Int) < (k : Int) := by omega
      rw [List.take_of_length_le (by rw [HL.out]; exact Nat.le_refl _)] at hown
      have HOW := Lib.hid hown
      clear hown
      go_wp2_with fail
      go_ret
      exact ⟨A', c', rfl, hc', HOW.out, hB⟩
end Go.Proofs.Ytlbnibmcflmohaa
