/- surb.Match and shallotref16.Match. -/
import Derived.Test.YtgkhglnfbhdkeaaDec2
import Derived.Test.YtgkhglnfbhdkeaaEqB
import Derived.Test.YtgkhglnfbhdkeaaRead
namespace Go.Proofs.Ytgkhglnfbhdkeaa
open Go.RowKit

/-- a store as an argument -/
structure StD where
  mark : List UInt8
  own : List UInt8
  A : Option Addr
  m : Nat
  c : Nat
def StD.cells (s : StD) : List Value := stC s.mark s.own s.A s.m s.c
def StD.ok (s : StD) : Prop := s.mark.length = 16 ∧ s.own.length = 32
theorem StD.len {s : StD} (h : s.ok) : s.cells.length = 49 := stC_len _ _ _ _ _ h.1 h.2
theorem StD.mark_at {s : StD} {r : Nat} {u : Value} (hu : (u8s s.mark)[r]? = some u) : s.cells[r]? = some u := by
  unfold StD.cells stC
  rw [List.getElem?_append_left (by have := (List.getElem?_eq_some_iff.1 hu).1; exact this)]
  exact hu
theorem RdS.bel {sz : Nat} {w w' : World} {A : Option Addr} {n : Nat} {xs : List Value} (h : RdS sz w A n xs) {B : Nat} (hb : Below B w w') (hB : w.heap.size ≤ B) : RdS sz w' A n xs := by
  refine ⟨h.1, fun hn => ?_⟩
  obtain ⟨b, off, e, hlt, hc⟩ := h.2 hn
  exact ⟨b, off, e, Nat.lt_of_lt_of_le hlt hb.size, fun j u hu => (hb.cell (p := ⟨b, off + j, none⟩) (Nat.lt_of_lt_of_le hlt hB)).trans (hc j u hu)⟩
theorem mark_range {w : World} {A : Option Addr} {n : Nat} {l : List StD} (h : RdS 49 w A n (l.flatMap StD.cells)) (hs : ∀ s ∈ l, s.ok) {i : Nat} {s : StD} (hi : l[i]? = some s) (hn : 0 < n) :
    ∃ b off, A = some ⟨b, off, none⟩ ∧ b < w.heap.size ∧ w.rangeAt b (off + i * 49) (u8s s.mark) := by
  obtain ⟨b, off, e, hb, hc⟩ := h.2 hn
  refine ⟨b, off, e, hb, fun j v hv => ?_⟩
  have h1 := flatMap_at (f := StD.cells) (sz := 49) (fun a ha => StD.len (hs a ha)) hi (StD.mark_at hv)
  rw [Nat.add_assoc]
  exact hc _ _ h1
/-- what a search answers -/
def MatchP (l : List StD) (mark : List UInt8) (w : World) (e : Ending) (w' : World) : Prop :=
  ((∃ (k : Nat) (s : StD), l[k]? = some s ∧ s.mark = mark ∧ (∀ (i : Nat) (s' : StD), i < k → l[i]? = some s' → s'.mark ≠ mark) ∧ e = .returned (.tuple #[.int .i64 (k : Int), .bool true])) ∨ ((∀ s ∈ l, s.mark ≠ mark) ∧ e = .returned (.tuple #[.int .i64 0, .bool false]))) ∧ Below w.heap.size w w'
section
variable {P : Program} {w : World} {o : Oper} {a : Act}
theorem ex_idxS {t e : TypeId} {x y : Operand} {g off n c p sz : Nat} (ho : o.op = .indexAddr t x y) (hx : a.eval x = .slice (some ⟨g, off, none⟩) n c) (hy : a.eval y = .int .i64 (p : Int)) (hp : p < n) (hu : P.underlying t = some (.slice e)) (hz : ∀ w, (sizeOf e).run P w = .ok sz w) : (execOp a.eval o).run P w = .ok (.value (.pointer (some ⟨g, off + p * sz, none⟩))) w := by
  unfold execOp
  simp [ho, hx, hy, Instr.indexAt, asIntOf, run_underlying hu, hz, hp, Addr.add]
theorem ex_eql {t t' : TypeId} {x y : Operand} {xs ys : Array Value} {v : Value} (ho : o.op = .binOp .eql t x y t') (hx : a.eval x = .agg xs) (hy : a.eval y = .agg ys) (hm : P.eqGuardType P.depth t = false) (h : (eqAt t (.agg xs) (.agg ys)).run P w = .ok v w) : (execOp a.eval o).run P w = .ok (.value v) w := by
  unfold execOp
  have h2 : (binOp .eql t (.agg xs) (.agg ys)).run P w = .ok v w := h
  simp [ho, hx, hy, run_eqGuard_agg w .eql t x y xs ys hm, h2]
end
theorem szSt (w : World) : (sizeOf 47).run Try.prog w = .ok 49 w := by kernel_rfl
theorem hd16 : (Try.prog.info? 25).map (·.size) = some 16 := by kernel_rfl
theorem eg16 : (Try.prog).eqGuardType (Try.prog).depth 25 = false := by kernel_rfl


set_option maxRecDepth 100000 in
set_option maxHeartbeats 4000000 in
theorem match_any (mark : List UInt8) (hmk : mark.length = 16) (A : Option Addr) (n c : Nat) (l : List StD) (w : World) (h : RdS 49 w A n (l.flatMap StD.cells)) (hs : ∀ s ∈ l, s.ok) (hl : l.length = n) (hn : n ≤ 2000000000000) :
    Calls Try.prog 18 #[.agg (u8s mark).toArray, .slice A n c] w (MatchP l mark w) := by
  have HR := Lib.hid h
  have HS := Lib.hid hs
  have HL := Lib.hid hl
  have HMK := Lib.hid hmk
  obtain ⟨MU, hMU⟩ : ∃ MU, MU = u8s mark := ⟨_, rfl⟩
  have HI2 : Hid ((Try.prog.info? 25).map (·.size) = some MU.length) := by rw [hMU, u8s_length, hmk]; exact hd16
  rw [← hMU]
  have HMU := Lib.hid hMU
  clear h hs hl hmk hMU
  go_enter Try.func18, Try.ntmps18
  have HB0 : Hid (Blk (w.alloc (.cells MU.toArray 25)) w.heap.size 25 MU) := Blk.new w _ _
  have HE0 : Hid (Below w.heap.size w (w.alloc (.cells MU.toArray 25))) := (Below.refl _ _).alloc (Nat.le_refl _) _
  go_wp2_with fail
  go_loopg [9] n (fun kk q wr => ∃ i : Nat, i ≤ n ∧ kk = n - i ∧ q = .int .i64 i ∧ (∀ j s', j < i → l[j]? = some s' → s'.mark ≠ mark) ∧ Blk wr w.heap.size 25 MU ∧ Below w.heap.size w wr)
  case atStart => exact ⟨0, by omega, rfl, rfl, fun j s' hj => absurd hj (by omega), HB0.out, HE0.out⟩
  case round =>
    clear HB0 HE0
    obtain ⟨i, hi, hgk, rfl, hno, hb, hB⟩ := hrel
    have HGK := Lib.hid hgk
    have HNO := Lib.hid hno
    clear hgk hno
    by_cases hlt : i < n
    · have hlt2 : (i : Int) < (n : Int) := by omega
      obtain ⟨s, hsi⟩ : ∃ s, l[i]? = some s := ⟨_, List.getElem?_eq_getElem (by rw [HL.out]; exact hlt)⟩
      obtain ⟨b, off, rfl, hbl, hrg⟩ := mark_range HR.out HS.out hsi (by omega)
      have hok := HS.out s (List.mem_of_getElem? hsi)
      obtain ⟨SU, hSU⟩ : ∃ SU, SU = u8s s.mark := ⟨_, rfl⟩
      have HI1 : Hid ((Try.prog.info? 25).map (·.size) = some SU.length) := by rw [hSU, u8s_length, hok.1]; exact hd16
      have HSI := Lib.hid hsi
      have heq : ∀ W, (eqAt 25 (.agg SU.toArray) (.agg MU.toArray)).run Try.prog W = .ok (.bool (decide (s.mark = mark))) W := fun W => by rw [hSU, HMU.out]; exact eq16 s.mark mark hok.1 HMK.out W
      rw [← hSU] at hrg
      have HRG : Hid (wr.drew.rangeAt b (off + i * 49) SU) := fun j v hv => (hB.cell (p := ⟨b, off + i * 49 + j, none⟩) hbl).trans (hrg j v hv)
      have HB2 := Lib.hid hb.drew
      have HE2 := Lib.hid hB.drew
      clear hsi hrg hok hb hB hSU
      by_cases hmm : s.mark = mark
      · have HMM := Lib.hid hmm
        have HEQ : Hid ((eqAt 25 (.agg SU.toArray) (.agg MU.toArray)).run Try.prog wr.drew = .ok (.bool true) wr.drew) := by have h5 := heq wr.drew; rw [decide_eq_true hmm] at h5; exact h5
        clear heq hmm
        go_wp2_with fail
        have hT : Blk wr.drew w.heap.size 25 MU ∧ wr.drew.rangeAt b (off + i * 49) SU := ⟨HB2.out, HRG.out⟩
        refine region_K (by kernel_rfl) 6 (fun w' => Blk w' w.heap.size 25 MU ∧ w'.rangeAt b (off + i * 49) SU) ?_
        refine AnyK.pure 0 (v := .slice (some ⟨b, off, none⟩) n c) rfl (by kernel_rfl) (fun _ _ _ h => h) rfl (fun _ => by kernel_rfl) (fun _ => hT) ?_
        refine AnyK.pure 1 (v := .int .i64 i) rfl (by kernel_rfl) (fun _ _ _ h => h) rfl (fun _ => by kernel_rfl) (fun _ => hT) ?_
        refine AnyK.pure 2 (v := .pointer (some ⟨b, off + i * 49, none⟩)) rfl (by kernel_rfl) (fun _ _ _ h => h) rfl (fun _ => ex_idxS (t := 48) (x := .tmp 12) (y := .tmp 13) (g := b) (off := off) (n := n) (c := c) (p := i) (by rfl) (by kernel_rfl) (by kernel_rfl) hlt Try.underlying48 szSt) (fun _ => hT) ?_
        refine AnyK.pure 3 (v := .pointer (some ⟨b, off + i * 49, none⟩)) rfl (by kernel_rfl) (fun _ _ _ h => h) rfl (fun _ => by kernel_rfl) (fun _ => hT) ?_
        refine AnyK.load 4 (v := .agg SU.toArray) rfl (by kernel_rfl) (by kernel_rfl) (by kernel_rfl) (fun _ _ _ h => h) rfl (fun w' hw' => ex_loadS rfl (by kernel_rfl) (run_loadAt_mid w' b (off + i * 49) 25 SU _ hw'.2 Try.underlying25 rfl HI1.out)) hT ?_
        refine AnyK.load 5 (v := .agg MU.toArray) rfl (by kernel_rfl) (by kernel_rfl) (by kernel_rfl) (fun _ _ _ h => h) rfl (fun w' hw' => ex_loadS rfl (by kernel_rfl) (ldAt_run hw'.1 _ 0 MU (by rw [List.drop_zero, List.take_of_length_le (Nat.le_refl _)]) _ Try.underlying25 rfl HI2.out)) hT ?_
        refine AnyK.val 6 (v := .bool true) rfl (by kernel_rfl) rfl (ex_eql rfl (by kernel_rfl) (by kernel_rfl) eg16 HEQ.out) (fun h => (by cases h)) ?_
        refine AnyK.done (by kernel_rfl) ?_
        clear hT
        iterate 2 (first | go_values | go_skip | go_guarded | go_step | go_upon | go_back)
        refine wp_cond_true (by kernel_rfl) ?_
        go_wp2_with fail
        go_ret2
        exact ⟨.inl ⟨i, s, HSI.out, HMM.out, HNO.out, rfl⟩, HE2.out⟩
      · have HMM := Lib.hid hmm
        have HEQ : Hid ((eqAt 25 (.agg SU.toArray) (.agg MU.toArray)).run Try.prog wr.drew = .ok (.bool false) wr.drew) := by have h5 := heq wr.drew; rw [decide_eq_false hmm] at h5; exact h5
        clear heq hmm
        go_wp2_with fail
        have hT : Blk wr.drew w.heap.size 25 MU ∧ wr.drew.rangeAt b (off + i * 49) SU := ⟨HB2.out, HRG.out⟩
        refine region_K (by kernel_rfl) 6 (fun w' => Blk w' w.heap.size 25 MU ∧ w'.rangeAt b (off + i * 49) SU) ?_
        refine AnyK.pure 0 (v := .slice (some ⟨b, off, none⟩) n c) rfl (by kernel_rfl) (fun _ _ _ h => h) rfl (fun _ => by kernel_rfl) (fun _ => hT) ?_
        refine AnyK.pure 1 (v := .int .i64 i) rfl (by kernel_rfl) (fun _ _ _ h => h) rfl (fun _ => by kernel_rfl) (fun _ => hT) ?_
        refine AnyK.pure 2 (v := .pointer (some ⟨b, off + i * 49, none⟩)) rfl (by kernel_rfl) (fun _ _ _ h => h) rfl (fun _ => ex_idxS (t := 48) (x := .tmp 12) (y := .tmp 13) (g := b) (off := off) (n := n) (c := c) (p := i) (by rfl) (by kernel_rfl) (by kernel_rfl) hlt Try.underlying48 szSt) (fun _ => hT) ?_
        refine AnyK.pure 3 (v := .pointer (some ⟨b, off + i * 49, none⟩)) rfl (by kernel_rfl) (fun _ _ _ h => h) rfl (fun _ => by kernel_rfl) (fun _ => hT) ?_
        refine AnyK.load 4 (v := .agg SU.toArray) rfl (by kernel_rfl) (by kernel_rfl) (by kernel_rfl) (fun _ _ _ h => h) rfl (fun w' hw' => ex_loadS rfl (by kernel_rfl) (run_loadAt_mid w' b (off + i * 49) 25 SU _ hw'.2 Try.underlying25 rfl HI1.out)) hT ?_
        refine AnyK.load 5 (v := .agg MU.toArray) rfl (by kernel_rfl) (by kernel_rfl) (by kernel_rfl) (fun _ _ _ h => h) rfl (fun w' hw' => ex_loadS rfl (by kernel_rfl) (ldAt_run hw'.1 _ 0 MU (by rw [List.drop_zero, List.take_of_length_le (Nat.le_refl _)]) _ Try.underlying25 rfl HI2.out)) hT ?_
        refine AnyK.val 6 (v := .bool false) rfl (by kernel_rfl) rfl (ex_eql rfl (by kernel_rfl) (by kernel_rfl) eg16 HEQ.out) (fun h => (by cases h)) ?_
        refine AnyK.done (by kernel_rfl) ?_
        clear hT
        iterate 2 (first | go_values | go_skip | go_guarded | go_step | go_upon | go_back)
        refine wp_cond_false (by kernel_rfl) ?_
        go_wp2_with fail
        go_roundg (n - (i + 1))
        case measure => have := HGK.out; omega
        case rel => exact ⟨i + 1, by omega, rfl, by go_num, fun j s' hj hs' => (by
          by_cases hji : j < i
          · exact HNO.out j s' hji hs'
          · obtain rfl : j = i := by omega
            rw [HSI.out] at hs'
            injection hs' with hs'
            subst hs'
            exact HMM.out), HB2.out, HE2.out⟩
    · obtain rfl : i = n := by omega
      have hlt2 : ¬ (i : Int) < (i : Int) := by omega
      clear hb
      go_wp2_with fail
      go_ret2
      refine ⟨.inr ⟨fun s hs => ?_, rfl⟩, hB⟩
      obtain ⟨j, hj⟩ := List.getElem?_of_mem hs
      exact HNO.out j s (by have := (List.getElem?_eq_some_iff.1 hj).1; have := HL.out; omega) hj


set_option maxRecDepth 100000 in
set_option maxHeartbeats 4000000 in
theorem rmatch_any (mark : List UInt8) (hmk : mark.length = 16) (A : Option Addr) (n c : Nat) (l : List StD) (w : World) (h : RdS 49 w A n (l.flatMap StD.cells)) (hs : ∀ s ∈ l, s.ok) (hl : l.length = n) (hn : n ≤ 2000000000000) :
    Calls Try.prog 19 #[.agg (u8s mark).toArray, .slice A n c] w (MatchP l mark w) := by
  have HR := Lib.hid h
  have HS := Lib.hid hs
  have HL := Lib.hid hl
  have HMK := Lib.hid hmk
  obtain ⟨MU, hMU⟩ : ∃ MU, MU = u8s mark := ⟨_, rfl⟩
  have HI2 : Hid ((Try.prog.info? 25).map (·.size) = some MU.length) := by rw [hMU, u8s_length, hmk]; exact hd16
  rw [← hMU]
  have HMU := Lib.hid hMU
  clear h hs hl hmk hMU
  go_enter Try.func19, Try.ntmps19
  have HB0 : Hid (Blk (w.alloc (.cells MU.toArray 25)) w.heap.size 25 MU) := Blk.new w _ _
  have HE0 : Hid (Below w.heap.size w (w.alloc (.cells MU.toArray 25))) := (Below.refl _ _).alloc (Nat.le_refl _) _
  go_wp2_with fail
  go_loopg [6] n (fun kk q wr => ∃ i : Nat, i ≤ n ∧ kk = n - i ∧ q = .int .i64 i ∧ (∀ j s', j < i → l[j]? = some s' → s'.mark ≠ mark) ∧ Blk wr w.heap.size 25 MU ∧ Below w.heap.size w wr)
  case atStart => exact ⟨0, by omega, rfl, rfl, fun j s' hj => absurd hj (by omega), HB0.out, HE0.out⟩
  case round =>
    clear HB0 HE0
    obtain ⟨i, hi, hgk, rfl, hno, hb, hB⟩ := hrel
    have HGK := Lib.hid hgk
    have HNO := Lib.hid hno
    clear hgk hno
    by_cases hlt : i < n
    · have hlt2 : (i : Int) < (n : Int) := by omega
      obtain ⟨s, hsi⟩ : ∃ s, l[i]? = some s := ⟨_, List.getElem?_eq_getElem (by rw [HL.out]; exact hlt)⟩
      obtain ⟨b, off, rfl, hbl, hrg⟩ := mark_range HR.out HS.out hsi (by omega)
      have hok := HS.out s (List.mem_of_getElem? hsi)
      obtain ⟨SU, hSU⟩ : ∃ SU, SU = u8s s.mark := ⟨_, rfl⟩
      have HI1 : Hid ((Try.prog.info? 25).map (·.size) = some SU.length) := by rw [hSU, u8s_length, hok.1]; exact hd16
      have HSI := Lib.hid hsi
      have heq : ∀ W, (eqAt 25 (.agg SU.toArray) (.agg MU.toArray)).run Try.prog W = .ok (.bool (decide (s.mark = mark))) W := fun W => by rw [hSU, HMU.out]; exact eq16 s.mark mark hok.1 HMK.out W
      rw [← hSU] at hrg
      have HRG : Hid (wr.drew.rangeAt b (off + i * 49) SU) := fun j v hv => (hB.cell (p := ⟨b, off + i * 49 + j, none⟩) hbl).trans (hrg j v hv)
      have HB2 := Lib.hid hb.drew
      have HE2 := Lib.hid hB.drew
      clear hsi hrg hok hb hB hSU
      by_cases hmm : s.mark = mark
      · have HMM := Lib.hid hmm
        have HEQ : Hid ((eqAt 25 (.agg SU.toArray) (.agg MU.toArray)).run Try.prog wr.drew = .ok (.bool true) wr.drew) := by have h5 := heq wr.drew; rw [decide_eq_true hmm] at h5; exact h5
        clear heq hmm
        go_wp2_with fail
        have hT : Blk wr.drew w.heap.size 25 MU ∧ wr.drew.rangeAt b (off + i * 49) SU := ⟨HB2.out, HRG.out⟩
        refine region_K (by kernel_rfl) 6 (fun w' => Blk w' w.heap.size 25 MU ∧ w'.rangeAt b (off + i * 49) SU) ?_
        refine AnyK.pure 0 (v := .slice (some ⟨b, off, none⟩) n c) rfl (by kernel_rfl) (fun _ _ _ h => h) rfl (fun _ => by kernel_rfl) (fun _ => hT) ?_
        refine AnyK.pure 1 (v := .int .i64 i) rfl (by kernel_rfl) (fun _ _ _ h => h) rfl (fun _ => by kernel_rfl) (fun _ => hT) ?_
        refine AnyK.pure 2 (v := .pointer (some ⟨b, off + i * 49, none⟩)) rfl (by kernel_rfl) (fun _ _ _ h => h) rfl (fun _ => ex_idxS (t := 48) (x := .tmp 13) (y := .tmp 14) (g := b) (off := off) (n := n) (c := c) (p := i) (by rfl) (by kernel_rfl) (by kernel_rfl) hlt Try.underlying48 szSt) (fun _ => hT) ?_
        refine AnyK.pure 3 (v := .pointer (some ⟨b, off + i * 49, none⟩)) rfl (by kernel_rfl) (fun _ _ _ h => h) rfl (fun _ => by kernel_rfl) (fun _ => hT) ?_
        refine AnyK.load 4 (v := .agg SU.toArray) rfl (by kernel_rfl) (by kernel_rfl) (by kernel_rfl) (fun _ _ _ h => h) rfl (fun w' hw' => ex_loadS rfl (by kernel_rfl) (run_loadAt_mid w' b (off + i * 49) 25 SU _ hw'.2 Try.underlying25 rfl HI1.out)) hT ?_
        refine AnyK.load 5 (v := .agg MU.toArray) rfl (by kernel_rfl) (by kernel_rfl) (by kernel_rfl) (fun _ _ _ h => h) rfl (fun w' hw' => ex_loadS rfl (by kernel_rfl) (ldAt_run hw'.1 _ 0 MU (by rw [List.drop_zero, List.take_of_length_le (Nat.le_refl _)]) _ Try.underlying25 rfl HI2.out)) hT ?_
        refine AnyK.val 6 (v := .bool true) rfl (by kernel_rfl) rfl (ex_eql rfl (by kernel_rfl) (by kernel_rfl) eg16 HEQ.out) (fun h => (by cases h)) ?_
        refine AnyK.done (by kernel_rfl) ?_
        clear hT
        iterate 2 (first | go_values | go_skip | go_guarded | go_step | go_upon | go_back)
        refine wp_cond_true (by kernel_rfl) ?_
        go_wp2_with fail
        go_ret2
        exact ⟨.inl ⟨i, s, HSI.out, HMM.out, HNO.out, rfl⟩, HE2.out⟩
      · have HMM := Lib.hid hmm
        have HEQ : Hid ((eqAt 25 (.agg SU.toArray) (.agg MU.toArray)).run Try.prog wr.drew = .ok (.bool false) wr.drew) := by have h5 := heq wr.drew; rw [decide_eq_false hmm] at h5; exact h5
        clear heq hmm
        go_wp2_with fail
        have hT : Blk wr.drew w.heap.size 25 MU ∧ wr.drew.rangeAt b (off + i * 49) SU := ⟨HB2.out, HRG.out⟩
        refine region_K (by kernel_rfl) 6 (fun w' => Blk w' w.heap.size 25 MU ∧ w'.rangeAt b (off + i * 49) SU) ?_
        refine AnyK.pure 0 (v := .slice (some ⟨b, off, none⟩) n c) rfl (by kernel_rfl) (fun _ _ _ h => h) rfl (fun _ => by kernel_rfl) (fun _ => hT) ?_
        refine AnyK.pure 1 (v := .int .i64 i) rfl (by kernel_rfl) (fun _ _ _ h => h) rfl (fun _ => by kernel_rfl) (fun _ => hT) ?_
        refine AnyK.pure 2 (v := .pointer (some ⟨b, off + i * 49, none⟩)) rfl (by kernel_rfl) (fun _ _ _ h => h) rfl (fun _ => ex_idxS (t := 48) (x := .tmp 13) (y := .tmp 14) (g := b) (off := off) (n := n) (c := c) (p := i) (by rfl) (by kernel_rfl) (by kernel_rfl) hlt Try.underlying48 szSt) (fun _ => hT) ?_
        refine AnyK.pure 3 (v := .pointer (some ⟨b, off + i * 49, none⟩)) rfl (by kernel_rfl) (fun _ _ _ h => h) rfl (fun _ => by kernel_rfl) (fun _ => hT) ?_
        refine AnyK.load 4 (v := .agg SU.toArray) rfl (by kernel_rfl) (by kernel_rfl) (by kernel_rfl) (fun _ _ _ h => h) rfl (fun w' hw' => ex_loadS rfl (by kernel_rfl) (run_loadAt_mid w' b (off + i * 49) 25 SU _ hw'.2 Try.underlying25 rfl HI1.out)) hT ?_
        refine AnyK.load 5 (v := .agg MU.toArray) rfl (by kernel_rfl) (by kernel_rfl) (by kernel_rfl) (fun _ _ _ h => h) rfl (fun w' hw' => ex_loadS rfl (by kernel_rfl) (ldAt_run hw'.1 _ 0 MU (by rw [List.drop_zero, List.take_of_length_le (Nat.le_refl _)]) _ Try.underlying25 rfl HI2.out)) hT ?_
        refine AnyK.val 6 (v := .bool false) rfl (by kernel_rfl) rfl (ex_eql rfl (by kernel_rfl) (by kernel_rfl) eg16 HEQ.out) (fun h => (by cases h)) ?_
        refine AnyK.done (by kernel_rfl) ?_
        clear hT
        iterate 2 (first | go_values | go_skip | go_guarded | go_step | go_upon | go_back)
        refine wp_cond_false (by kernel_rfl) ?_
        go_wp2_with fail
        go_roundg (n - (i + 1))
        case measure => have := HGK.out; omega
        case rel => exact ⟨i + 1, by omega, rfl, by go_num, fun j s' hj hs' => (by
          by_cases hji : j < i
          · exact HNO.out j s' hji hs'
          · obtain rfl : j = i := by omega
            rw [HSI.out] at hs'
            injection hs' with hs'
            subst hs'
            exact HMM.out), HB2.out, HE2.out⟩
    · obtain rfl : i = n := by omega
      have hlt2 : ¬ (i : Int) < (i : Int) := by omega
      clear hb
      go_wp2_with fail
      go_ret2
      refine ⟨.inr ⟨fun s hs => ?_, rfl⟩, hB⟩
      obtain ⟨j, hj⟩ := List.getElem?_of_mem hs
      exact HNO.out j s (by have := (List.getElem?_eq_some_iff.1 hj).1; have := HL.out; omega) hj

end Go.Proofs.Ytgkhglnfbhdkeaa
