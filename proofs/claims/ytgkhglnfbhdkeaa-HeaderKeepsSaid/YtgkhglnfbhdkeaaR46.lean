/- shallotref01.Xor of two lists. -/
import Derived.Test.YtgkhglnfbhdkeaaWdP
import Derived.Test.YtgkhglnfbhdkeaaRg
import Derived.Test.YtgkhglnfbhdkeaaChQ
namespace Go.Proofs.Ytgkhglnfbhdkeaa
open Go.RowKit

section
variable {P : Program} {w : World} {o : Oper} {a : Act}
theorem ex_idxO {t e : TypeId} {x y : Operand} {g off n c p : Nat} (ho : o.op = .indexAddr t x y) (hx : a.eval x = .slice (some ⟨g, off, none⟩) n c) (hy : a.eval y = .int .i64 (p : Int)) (hp : p < n) (hu : P.underlying t = some (.slice e)) (hz : ∀ w, (sizeOf e).run P w = .ok 1 w) : (execOp a.eval o).run P w = .ok (.value (.pointer (some ⟨g, off + p, none⟩))) w := by
  unfold execOp
  simp [ho, hx, hy, Instr.indexAt, asIntOf, run_underlying hu, hz, hp, Addr.add]
theorem ex_storeV {t : TypeId} {x y : Operand} {p : Addr} {u v : Value} (ho : o.op = .store t x y) (hx : a.eval x = .pointer (some p)) (hy : a.eval y = v) (h1 : v.oneCell' = true) (hz : ∀ w, (sizeOf t).run P w = .ok 1 w) (hc : w.cell? p = some u) (hf : w.frozen? p = false) : (execOp a.eval o).run P w = .ok .skip (w.setCell p v) := by
  unfold execOp
  cases v <;> first
    | (simp [ho, hx, hy, Instr.storeAt, Instr.sureAddr, storeVar, hz, Value.cells, storeCells, store, Addr.add, Sem.run, hc, hf]; done)
    | (cases h1; done)
end
theorem szSl (w : World) : (sizeOf 22).run Try.prog w = .ok 1 w := by kernel_rfl
theorem agSl (w : World) : (isAgg 22).run Try.prog w = .ok false w := by kernel_rfl
theorem mixed_0 (x y : List UInt8) : mixed x y 0 = x := by simp [mixed, Ch.xor]

set_option maxRecDepth 100000 in
set_option maxHeartbeats 4000000 in
theorem rxor_any (A : Option Addr) (c n : Nat) (x y : List UInt8) (w : World) (h : RdB w A 2 [x, y]) (hx : x.length = n) (hy : y.length = n) (hn : n ≤ 1000000) :
    Calls Try.prog 80 #[.slice A 2 c] w fun e w' => ∃ A' c', e = .returned (.tuple #[.slice A' n c', .int .i64 0]) ∧ n ≤ c' ∧ w'.ownsRow w.heap.size 5 1 (.slice A' n c') n (u8s (Ch.xor x y)) ∧ Below w.heap.size w w' := by
  have HXY : Hid (x.length = y.length) := by rw [hx, hy]; exact rfl
  have HX := Lib.hid hx
  have HY := Lib.hid hy
  have HE : Hid (mixed x y n = Ch.xor x y) := by rw [← hx]; exact mixed_end x y HXY.out
  have HR := Lib.hid h
  clear h hx hy
  go_enter Try.func80, Try.ntmps80
  go_wp2_with fail
  go_loopg [4, 5] 2 (fun kk v q wr => ∃ i : Nat, i ≤ 2 ∧ kk = 2 - i ∧ q = .int .i64 i ∧ Below w.heap.size w wr ∧ ((i = 0 ∧ v = .slice none 0 0) ∨ (i ≠ 0 ∧ ∃ A' c', v = .slice A' n c' ∧ n ≤ c' ∧ wr.ownsRow w.heap.size 5 1 (.slice A' n c') n (u8s (if i = 1 then x else Ch.xor x y)))))
  case atStart => exact ⟨0, by omega, rfl, rfl, Below.refl _ _, .inl ⟨rfl, rfl⟩⟩
  case round =>
    obtain ⟨i, hi, hgk, rfl, hB, hcase⟩ := hrel
    have HGK := Lib.hid hgk
    clear hgk
    obtain rfl | rfl | rfl : i = 0 ∨ i = 1 ∨ i = 2 := by omega
    · rcases hcase with ⟨_, rfl⟩ | ⟨h0, _⟩
      · have hlt2 : ((0 : Nat) : Int) < ((2 : Nat) : Int) := by omega
        obtain ⟨b, off, A1, n1, c1, l, rfl, hb, HL, hcl, hnc, hr1⟩ := (HR.out.below hB).at_ (k := 0) (by omega)
        have hl : l = x := by have := HL.out; simp at this; exact this.symm
        subst hl
        obtain rfl : n1 = n := by rw [← hr1.len, HX.out]
        have HC := Lib.hid (copy_any A1 n1 c1 l wr hr1 (by omega))
        have HBE := Lib.hid hB
        rw [Nat.add_zero] at hcl
        clear HL hr1 hB
        go_wp2_with ((go_at_call 11; (with_reducible refine HC.out.mono ?_); rintro e w1 ⟨A', c', rfl, hc', hown, hB1⟩
                      have HO1 := Lib.hid (own_mono hown HBE.out.size)
                      have HE1 := Lib.hid (HBE.out.trans (hB1.mono HBE.out.size))
                      clear hown hB1))
        go_roundg (2 - (0 + 1))
        case measure => have := HGK.out; omega
        case rel => exact ⟨0 + 1, by omega, rfl, rfl, HE1.out, .inr ⟨by omega, A', c', rfl, hc', HO1.out⟩⟩
      · exact absurd rfl h0
    · rcases hcase with ⟨h0, _⟩ | ⟨_, A', c', rfl, hc', hown⟩
      · exact absurd h0 (by omega)
      · have hlt2 : ((1 : Nat) : Int) < ((2 : Nat) : Int) := by omega
        obtain ⟨b, off, A1, n1, c1, l, rfl, hb, HL, hcl, hnc, hr1⟩ := HR.out.at_ (k := 1) (by omega)
        have hl : l = y := by have := HL.out; simp at this; exact this.symm
        subst hl
        obtain rfl : n1 = n := by rw [← hr1.len, HY.out]
        have HO : Hid (wr.ownsRow w.heap.size 5 1 (.slice A' n1 c') n1 (u8s (mixed x l 0))) := by show World.ownsRow _ _ _ _ _ _ _; rw [mixed_0]; exact hown
        have HBE := Lib.hid hB
        have HR1 := Lib.hid hr1
        have hcl1 : wr.cell? ⟨b, off + 1, none⟩ = some (.slice A1 n1 c1) := (hB.cell (p := ⟨b, off + 1, none⟩) hb).trans hcl
        have HCL := Lib.hid hcl
        clear HL hr1 hB hown hcl
        have h1b : ((1 : Nat) : Int) = 1 := rfl
        go_wp2_with fail
        go_loopg [6] n1 (fun kk q w2 => ∃ j : Nat, j ≤ n1 ∧ kk = n1 - j ∧ q = .int .i64 j ∧ w2.ownsRow w.heap.size 5 1 (.slice A' n1 c') n1 (u8s (mixed x l j)) ∧ Below w.heap.size w w2)
        case atStart => exact ⟨0, by omega, rfl, rfl, HO.out, HBE.out⟩
        case round =>
          clear HO HBE hcl1
          obtain ⟨j, hj, hjk, rfl, hown, hB⟩ := hrel
          have HJK := Lib.hid hjk
          clear hjk
          by_cases hlt : j < n1
          · have hlt3 : (j : Int) < (n1 : Int) := by omega
            obtain ⟨g, rfl, hgb, hgl, _⟩ := own_pos hown (by omega)
            obtain ⟨b1, off1, v, rfl, hbl, HV, cv⟩ := HR1.out.u8 hlt
            obtain ⟨u, hu⟩ : ∃ u, x[j]? = some u := ⟨_, List.getElem?_eq_getElem (by rw [HX.out]; exact hlt)⟩
            have HU := Lib.hid hu
            have hml := mixed_len x l j HXY.out
            have cu : wr.drew.cell? ⟨g, j, none⟩ = some (.int .u8 u.toNat) := (hown.cellAt j (by omega)).trans (by rw [u8s_getElem?, mixed_get x l j HXY.out (by rw [HX.out]; exact hlt), hu]; rfl)
            have fu := hown.frozenAt j
            have cv2 : wr.drew.cell? ⟨b1, off1 + j, none⟩ = some (.int .u8 v.toNat) := (hB.cell (p := ⟨b1, off1 + j, none⟩) hbl).trans cv
            have cl2 : wr.drew.cell? ⟨b, off + 1, none⟩ = some (.slice (some ⟨b1, off1, none⟩) n1 c1) := (hB.cell (p := ⟨b, off + 1, none⟩) hb).trans HCL.out
            have HXR := Lib.hid (w8_xor u v)
            have hst := (hown.drew.stored j (.int .u8 (u ^^^ v).toNat)).1
            rw [u8s_set, mixed_set x l j HXY.out hu HV.out] at hst
            have HST := Lib.hid hst
            have HB3 := Lib.hid ((hB.drew).setCell (p := ⟨g, j, none⟩) hgb (.int .u8 (u ^^^ v).toNat))
            clear hst hown hml hu cv
            have HCU := Lib.hid cu
            have HCV := Lib.hid cv2
            have HCLL := Lib.hid cl2
            have HFU := Lib.hid fu
            clear cu cv2 cl2 fu
            go_wp2_with fail
            have hT := And.intro HCU.out (And.intro HCV.out HCLL.out)
            refine region_K (by kernel_rfl) 15 (fun w' => w'.cell? ⟨g, j, none⟩ = some (.int .u8 u.toNat) ∧ w'.cell? ⟨b1, off1 + j, none⟩ = some (.int .u8 v.toNat) ∧ w'.cell? ⟨b, off + 1, none⟩ = some (.slice (some ⟨b1, off1, none⟩) n1 c1)) ?_
            refine AnyK.pure 0 (v := .slice (some ⟨g, 0, none⟩) n1 c') rfl (by kernel_rfl) (fun _ _ _ h => h) rfl (fun _ => by kernel_rfl) (fun _ => hT) ?_
            refine AnyK.pure 1 (v := .int .i64 j) rfl (by kernel_rfl) (fun _ _ _ h => h) rfl (fun _ => by kernel_rfl) (fun _ => hT) ?_
            refine AnyK.pure 2 (v := .slice (some ⟨g, 0, none⟩) n1 c') rfl (by kernel_rfl) (fun _ _ _ h => h) rfl (fun _ => by kernel_rfl) (fun _ => hT) ?_
            refine AnyK.pure 3 (v := .int .i64 j) rfl (by kernel_rfl) (fun _ _ _ h => h) rfl (fun _ => by kernel_rfl) (fun _ => hT) ?_
            refine AnyK.pure 4 (v := .pointer (some ⟨g, 0 + j, none⟩)) rfl (by kernel_rfl) (fun _ _ _ h => h) rfl (fun _ => ex_idxO (t := 22) (x := .tmp 35) (y := .tmp 36) (g := g) (off := 0) (n := n1) (c := c') (p := j) (by rfl) (by kernel_rfl) (by kernel_rfl) hlt Try.underlying22 szU8) (fun _ => hT) ?_
            refine AnyK.load 5 (v := .int .u8 u.toNat) rfl (by kernel_rfl) (by kernel_rfl) (by kernel_rfl) (fun _ _ _ h => h) rfl (fun w' hw' => ex_load (t := 5) (x := .tmp 37) (p := ⟨g, 0 + j, none⟩) (by rfl) (by kernel_rfl) agU8 (by rw [Nat.zero_add]; exact hw'.1)) hT ?_
            refine AnyK.pure 6 (v := .slice (some ⟨b, off, none⟩) 2 c) rfl (by kernel_rfl) (fun _ _ _ h => h) rfl (fun _ => by kernel_rfl) (fun _ => hT) ?_
            refine AnyK.pure 7 (v := .int .i64 ((1 : Nat) : Int)) rfl (by kernel_rfl) (fun _ _ _ h => h) rfl (fun _ => by kernel_rfl) (fun _ => hT) ?_
            refine AnyK.pure 8 (v := .pointer (some ⟨b, off + 1, none⟩)) rfl (by kernel_rfl) (fun _ _ _ h => h) rfl (fun _ => ex_idxO (t := 84) (x := .tmp 39) (y := .tmp 40) (g := b) (off := off) (n := 2) (c := c) (p := 1) (by rfl) (by kernel_rfl) (by kernel_rfl) (by omega) Try.underlying84 szSl) (fun _ => hT) ?_
            refine AnyK.load 9 (v := .slice (some ⟨b1, off1, none⟩) n1 c1) rfl (by kernel_rfl) (by kernel_rfl) (by kernel_rfl) (fun _ _ _ h => h) rfl (fun w' hw' => ex_load (t := 22) (x := .tmp 41) (p := ⟨b, off + 1, none⟩) (by rfl) (by kernel_rfl) agSl hw'.2.2) hT ?_
            refine AnyK.pure 10 (v := .int .i64 j) rfl (by kernel_rfl) (fun _ _ _ h => h) rfl (fun _ => by kernel_rfl) (fun _ => hT) ?_
            refine AnyK.pure 11 (v := .pointer (some ⟨b1, off1 + j, none⟩)) rfl (by kernel_rfl) (fun _ _ _ h => h) rfl (fun _ => ex_idxO (t := 22) (x := .tmp 42) (y := .tmp 43) (g := b1) (off := off1) (n := n1) (c := c1) (p := j) (by rfl) (by kernel_rfl) (by kernel_rfl) hlt Try.underlying22 szU8) (fun _ => hT) ?_
            refine AnyK.load 12 (v := .int .u8 v.toNat) rfl (by kernel_rfl) (by kernel_rfl) (by kernel_rfl) (fun _ _ _ h => h) rfl (fun w' hw' => ex_load (t := 5) (x := .tmp 44) (p := ⟨b1, off1 + j, none⟩) (by rfl) (by kernel_rfl) agU8 hw'.2.1) hT ?_
            refine AnyK.pure 13 (v := .int .u8 (bits .xor .u8 (u.toNat : Int) (v.toNat : Int))) rfl (by kernel_rfl) (fun _ _ _ h => h) rfl (fun _ => by kernel_rfl) (fun _ => hT) ?_
            refine AnyK.pure 14 (v := .pointer (some ⟨g, 0 + j, none⟩)) rfl (by kernel_rfl) (fun _ _ _ h => h) rfl (fun _ => ex_idxO (t := 22) (x := .tmp 33) (y := .tmp 34) (g := g) (off := 0) (n := n1) (c := c') (p := j) (by rfl) (by kernel_rfl) (by kernel_rfl) hlt Try.underlying22 szU8) (fun _ => hT) ?_
            refine AnyK.store 15 (d := none) (op := .store 5 (.tmp 47) (.tmp 46)) (by kernel_rfl) (fun o ho => ex_store (p := ⟨g, 0 + j, none⟩) (k := .u8) (n := ((u ^^^ v).toNat : Int)) ho (by kernel_rfl) (by rw [← HXR.out]; kernel_rfl) szU8 (by rw [Nat.zero_add]; exact hT.1) (by rw [Nat.zero_add]; exact HFU.out)) (by kernel_rfl) (fun h => (by cases h)) ?_
            refine AnyK.done (by kernel_rfl) ?_
            rw [Nat.zero_add]
            clear hT
            go_wp2_with fail
            go_roundg (n1 - (j + 1))
            case measure => have := HJK.out; omega
            case rel => exact ⟨j + 1, by omega, rfl, by go_num, HST.out, HB3.out⟩
          · obtain rfl : j = n1 := by omega
            have hlt3 : ¬ (j : Int) < (j : Int) := by omega
            rw [HE.out] at hown
            have HO := Lib.hid hown
            clear hown
            go_wp2_with fail
            go_roundg (2 - (1 + 1))
            case measure => have := HGK.out; omega
            case rel => exact ⟨1 + 1, by omega, rfl, rfl, hB, .inr ⟨by omega, A', c', rfl, hc', HO.out⟩⟩
    · rcases hcase with ⟨h0, _⟩ | ⟨_, A', c', rfl, hc', hown⟩
      · exact absurd h0 (by omega)
      · have hlt2 : ¬ ((2 : Nat) : Int) < ((2 : Nat) : Int) := by omega
        have HO : Hid (wr.ownsRow w.heap.size 5 1 (.slice A' n c') n (u8s (Ch.xor x y))) := hown
        clear hown
        go_wp2_with fail
        go_ret2
        exact ⟨A', c', rfl, hc', HO.out, hB⟩
end Go.Proofs.Ytgkhglnfbhdkeaa
