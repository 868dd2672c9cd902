/- Part of the proof: R46, Sam, Chk, Flo, Xor, Flu. -/
import Derived.Test.YtlbnibmcflmohaaGreatPlx20
namespace Go.Proofs.YtlbnibmcflmohaaGreat
open Go.RowKit
section
variable {P : Program} {w : World} {o : Oper} {a : Act}
theorem ex_idxO {t e : TypeId} {x y : Operand} {g off n c p : Nat} (ho : o.op = .indexAddr t x y) (hx : a.eval x = .slice (some ⟨g, off, none⟩) n c) (hy : a.eval y = .int .i64 (p : Int)) (hp : p < n) (hu : P.underlying t = some (.slice e)) (hz : ∀ w, (sizeOf e).run P w = .ok 1 w) : (execOp a.eval o).run P w = .ok (.value (.pointer (some ⟨g, off + p, none⟩))) w := by
  unfold execOp
  simp [ho, hx, hy, Instr.indexAt, asIntOf, run_underlying hu, hz, hp, Addr.add]
end
theorem mixed_0 (x y : List UInt8) : mixed x y 0 = x := by simp [mixed, Ch.xor]
end Go.Proofs.YtlbnibmcflmohaaGreat
namespace Go.Proofs.YtlbnibmcflmohaaGreat
open Go.RowKit
def diff (a b : List UInt8) : Nat → UInt8
  | 0 => 0
  | i + 1 => diff a b i ||| (a.getD i 0 ^^^ b.getD i 0)
theorem or_zero {x y : UInt8} (h : x ||| y = 0) : x = 0 ∧ y = 0 := by
  have h1 : (x ||| y).toNat = 0 := by rw [h]; rfl
  rw [UInt8.toNat_or] at h1
  have h2 := Nat.left_le_or (n := x.toNat) (m := y.toNat)
  have h3 := Nat.right_le_or (n := x.toNat) (m := y.toNat)
  exact ⟨UInt8.toNat_inj.1 (by show _ = 0; omega), UInt8.toNat_inj.1 (by show _ = 0; omega)⟩
theorem xor_zero {x y : UInt8} : x ^^^ y = 0 ↔ x = y := UInt8.xor_eq_zero_iff
theorem diff_zero (a b : List UInt8) (i : Nat) : diff a b i = 0 ↔ ∀ j, j < i → a.getD j 0 = b.getD j 0 := by
  induction i with
  | zero => simp [diff]
  | succ i ih =>
    unfold diff
    constructor
    · intro h j hj
      obtain ⟨h1, h2⟩ := or_zero h
      by_cases hji : j < i
      · exact ih.1 h1 j hji
      · obtain rfl : j = i := by omega
        exact xor_zero.1 h2
    · intro h
      rw [ih.2 (fun j hj => h j (by omega)), xor_zero.2 (h i (by omega))]
      rfl
theorem diff_eq {a b : List UInt8} {n : Nat} (ha : a.length = n) (hb : b.length = n) : diff a b n = 0 ↔ a = b := by
  rw [diff_zero]
  constructor
  · intro h
    apply List.ext_getElem (by omega)
    intro i h1 h2
    have := h i (by omega)
    rwa [List.getD_eq_getElem?_getD, List.getD_eq_getElem?_getD, List.getElem?_eq_getElem h1, List.getElem?_eq_getElem h2] at this
  · rintro rfl j _
    rfl
set_option maxRecDepth 100000 in
set_option maxHeartbeats 4000000 in
theorem looks_any (A B : Option Addr) (n c d : Nat) (a b : List UInt8) (w : World) (ha : Rd w A n (u8s a)) (hb : Rd w B n (u8s b)) (hn : n ≤ 140737488355328) :
    Calls Tryz.prog 73 #[.slice A n c, .slice B n d] w fun e w' => e = .returned (.tuple #[.bool (decide (diff a b n = 0)), .int .i64 n]) ∧ ∃ q, w' = w.drewN q := by
  have HA := Lib.hid ha
  have HB := Lib.hid hb
  clear ha hb
  go_enter Tryz.func73, Tryz.ntmps73
  go_wp2_with fail
  go_loopg [6, 7, 16] n (fun kk xv lv qv wr => ∃ (i q : Nat) (x : UInt8), i ≤ n ∧ kk = n - i ∧ qv = .int .i64 i ∧ lv = .int .i64 i ∧ x = diff a b i ∧ xv = .int .u8 x.toNat ∧ wr = w.drewN q)
  case atStart => exact ⟨0, 0, 0, by omega, rfl, rfl, rfl, rfl, rfl, rfl⟩
  case round =>
    obtain ⟨i, q, x, hi, hgk, rfl, rfl, hx, rfl, rfl⟩ := hrel
    have HGK := Lib.hid hgk
    have HX := Lib.hid hx
    clear hgk hx
    by_cases hlt : i < n
    · have hlt2 : (i : Int) < (n : Int) := by omega
      obtain ⟨b1, o1, u, rfl, hb1, HU, cu⟩ := HA.out.u8 hlt
      obtain ⟨b2, o2, v, rfl, hb2, HV, cv⟩ := HB.out.u8 hlt
      have HDN : Hid (diff a b (i + 1) = x ||| (u ^^^ v)) := by
        show _ = _
        rw [diff, HX.out, List.getD_eq_getElem?_getD, List.getD_eq_getElem?_getD, HU.out, HV.out]
        rfl
      have HCU := Lib.hid cu
      have HCV := Lib.hid cv
      clear cu cv
      go_wp2_with fail
      have hT : (w.drewN q).drew.cell? ⟨b1, o1 + i, none⟩ = some (.int .u8 u.toNat) ∧ (w.drewN q).drew.cell? ⟨b2, o2 + i, none⟩ = some (.int .u8 v.toNat) := ⟨HCU.out, HCV.out⟩
      refine region_K (by kernel_rfl) 11 (fun w' => w'.cell? ⟨b1, o1 + i, none⟩ = some (.int .u8 u.toNat) ∧ w'.cell? ⟨b2, o2 + i, none⟩ = some (.int .u8 v.toNat)) ?_
      refine AnyK.pure 0 (v := .int .u8 x.toNat) rfl (by kernel_rfl) (fun _ _ _ h => h) rfl (fun _ => by kernel_rfl) (fun _ => hT) ?_
      refine AnyK.pure 1 (v := .slice (some ⟨b1, o1, none⟩) n c) rfl (by kernel_rfl) (fun _ _ _ h => h) rfl (fun _ => by kernel_rfl) (fun _ => hT) ?_
      refine AnyK.pure 2 (v := .int .i64 i) rfl (by kernel_rfl) (fun _ _ _ h => h) rfl (fun _ => by kernel_rfl) (fun _ => hT) ?_
      refine AnyK.pure 3 (v := .pointer (some ⟨b1, o1 + i, none⟩)) rfl (by kernel_rfl) (fun _ _ _ h => h) rfl (fun _ => ex_idxO (t := 23) (x := .tmp 20) (y := .tmp 21) (g := b1) (off := o1) (n := n) (c := c) (p := i) (by rfl) (by kernel_rfl) (by kernel_rfl) hlt Tryz.underlying23 szU8) (fun _ => hT) ?_
      refine AnyK.load 4 (v := .int .u8 u.toNat) rfl (by kernel_rfl) (by kernel_rfl) (by kernel_rfl) (fun _ _ _ h => h) rfl (fun w' hw' => ex_load (t := 5) (x := .tmp 22) (p := ⟨b1, o1 + i, none⟩) (by rfl) (by kernel_rfl) agU8 hw'.1) hT ?_
      refine AnyK.pure 5 (v := .slice (some ⟨b2, o2, none⟩) n d) rfl (by kernel_rfl) (fun _ _ _ h => h) rfl (fun _ => by kernel_rfl) (fun _ => hT) ?_
      refine AnyK.pure 6 (v := .int .i64 i) rfl (by kernel_rfl) (fun _ _ _ h => h) rfl (fun _ => by kernel_rfl) (fun _ => hT) ?_
      refine AnyK.pure 7 (v := .pointer (some ⟨b2, o2 + i, none⟩)) rfl (by kernel_rfl) (fun _ _ _ h => h) rfl (fun _ => ex_idxO (t := 23) (x := .tmp 24) (y := .tmp 25) (g := b2) (off := o2) (n := n) (c := d) (p := i) (by rfl) (by kernel_rfl) (by kernel_rfl) hlt Tryz.underlying23 szU8) (fun _ => hT) ?_
      refine AnyK.load 8 (v := .int .u8 v.toNat) rfl (by kernel_rfl) (by kernel_rfl) (by kernel_rfl) (fun _ _ _ h => h) rfl (fun w' hw' => ex_load (t := 5) (x := .tmp 26) (p := ⟨b2, o2 + i, none⟩) (by rfl) (by kernel_rfl) agU8 hw'.2) hT ?_
      refine AnyK.pure 9 (v := .int .u8 (bits .xor .u8 (u.toNat : Int) (v.toNat : Int))) rfl (by kernel_rfl) (fun _ _ _ h => h) rfl (fun _ => by kernel_rfl) (fun _ => hT) ?_
      refine AnyK.pure 10 (v := .int .u8 (x ||| (u ^^^ v)).toNat) rfl (by kernel_rfl) (fun _ _ _ h => h) rfl (fun _ => by show _ = Result.ok (Next.value (.int .u8 ((x ||| (u ^^^ v)).toNat : Int))) _; rw [← w8_or, ← w8_xor]; kernel_rfl) (fun _ => hT) ?_
      refine AnyK.val 11 (v := .int .u8 (x ||| (u ^^^ v)).toNat) rfl (by kernel_rfl) rfl (by kernel_rfl) (fun h => (by cases h)) ?_
      refine AnyK.done (by kernel_rfl) ?_
      clear hT
      go_wp2_with fail
      go_roundg (n - (i + 1))
      case measure => have := HGK.out; omega
      case rel => exact ⟨i + 1, q + 1, _, by omega, rfl, by go_num, by go_num, HDN.out.symm, rfl, rfl⟩
    · obtain rfl : i = n := by omega
      have hlt2 : ¬ (i : Int) < (i : Int) := by omega
      have hq : (((x.toNat : Int)) == 0) = decide (diff a b i = 0) := by
        rw [← HX.out]
        by_cases h0 : x = 0
        · subst h0; rfl
        · have : ¬ (x.toNat : Int) = 0 := fun h => h0 (UInt8.toNat_inj.1 (by simpa using h))
          rw [decide_eq_false h0]
          simpa using this
      go_wp2_with fail
      go_ret2
      exact ⟨rfl, q, rfl⟩
set_option maxHeartbeats 1000000 in
theorem looks_no (A B : Option Addr) (n m c d : Nat) (w : World) (hne : ¬ n = m) :
    Calls Tryz.prog 73 #[.slice A n c, .slice B m d] w fun e w' => e = .returned (.tuple #[.bool false, .int .i64 0]) ∧ w = w' := by
  have h2 : ((n : Int) != (m : Int)) = true := by rw [bne_iff_ne]; omega
  clear hne
  go_enter Tryz.func73, Tryz.ntmps73
  go_wp2_with fail
  go_ret2
  exact ⟨rfl, rfl⟩
set_option maxHeartbeats 1000000 in
theorem csame_any (A B : Option Addr) (n m c d : Nat) (a b : List UInt8) (w : World) (ha : Rd w A n (u8s a)) (hb : Rd w B m (u8s b)) (hn : n ≤ 140737488355328) :
    Calls Tryz.prog 51 #[.slice A n c, .slice B m d] w fun e w' => e = .returned (.bool (decide (a = b))) ∧ ∃ q, w' = w.drewN q := by
  by_cases hnm : n = m
  · subst hnm
    have HL : Hid (Calls Tryz.prog 73 #[.slice A n c, .slice B n d] w fun e w' => e = .returned (.tuple #[.bool (decide (a = b)), .int .i64 n]) ∧ ∃ q, w' = w.drewN q) := by
      have h5 := looks_any A B n c d a b w ha hb hn
      rw [decide_eq_decide.2 (diff_eq ha.len hb.len)] at h5
      exact h5
    clear ha hb
    generalize decide (a = b) = z at *
    go_enter Tryz.func51, Tryz.ntmps51
    go_wp2_with (go_at_call 73; (with_reducible refine HL.out.mono ?_); rintro e w1 ⟨rfl, q1, rfl⟩)
    go_ret
    exact ⟨rfl, q1, rfl⟩
  · have hab : decide (a = b) = false := by
      rw [decide_eq_false_iff_not]
      rintro rfl
      exact hnm (ha.len.symm.trans hb.len)
    have HL := Lib.hid (looks_no A B n m c d w hnm)
    rw [hab]
    clear ha hb hab hnm
    go_enter Tryz.func51, Tryz.ntmps51
    go_wp2_with (go_at_call 73; (with_reducible refine HL.out.mono ?_); rintro e w1 ⟨rfl, rfl⟩)
    go_ret
    exact ⟨rfl, 0, rfl⟩
end Go.Proofs.YtlbnibmcflmohaaGreat
namespace Go.Proofs.YtlbnibmcflmohaaGreat
open Go.RowKit
set_option maxHeartbeats 1000000 in
theorem check_any (A : Option Addr) (n c : Nat) (k : List UInt8) (T : Option Addr) (nt ct : Nat) (tag : List UInt8) (A2 : Option Addr) (n2 c2 : Nat) (ls : List (List UInt8)) (w : World)
    (HS : Calls Tryz.prog 23 #[.slice A n c, .slice A2 n2 c2] w fun e w' => ∃ A' c', e = .returned (.slice A' 16 c') ∧ Rd w' A' 16 (u8s ((Mc.tag k ls.flatten).take 16)) ∧ Below w.heap.size w w') (ht : Rd w T nt (u8s tag)) :
    Calls Tryz.prog 25 #[.slice A n c, .slice T nt ct, .slice A2 n2 c2] w fun e w' => e = .returned (.bool (decide ((Mc.tag k ls.flatten).take 16 = tag))) ∧ Below w.heap.size w w' := by
  have HSH := Lib.hid HS
  have HT := Lib.hid ht
  clear HS ht
  go_enter Tryz.func25, Tryz.ntmps25
  go_wp2_with (first
    | (go_at_call 23; (with_reducible refine HSH.out.mono ?_); rintro e w1 ⟨A1, c1, rfl, hr1, hB1⟩
       have HE1 := Lib.hid hB1
       have HR1 := Lib.hid hr1
       have HT1 := Lib.hid (HT.out.below hB1)
       clear hr1 hB1)
    | (go_at_call 51; (with_reducible refine (csame_any A1 T 16 nt c1 ct _ tag _ (by exact HR1.out) (by exact HT1.out) (by omega)).mono ?_); rintro e w2 ⟨rfl, q2, rfl⟩))
  go_ret
  exact ⟨rfl, below_drewN HE1.out q2⟩
theorem mcheck_any (A : Option Addr) (n c : Nat) (k : List UInt8) (T : Option Addr) (nt ct : Nat) (tag : List UInt8) (A2 : Option Addr) (n2 c2 : Nat) (ls : List (List UInt8)) (w : World)
    (h : Rd w A n (u8s k)) (hc : n ≤ c) (hn : n ≤ 1000000000) (h2 : RdB w A2 n2 ls) (hn2 : n2 ≤ 1000000) (hl : ls.flatten.length ≤ 100000000) (ht : Rd w T nt (u8s tag)) :
    Calls Tryz.prog 25 #[.slice A n c, .slice T nt ct, .slice A2 n2 c2] w fun e w' => e = .returned (.bool (decide ((Mc.tag k ls.flatten).take 16 = tag))) ∧ Below w.heap.size w w' := by
  refine check_any A n c k T nt ct tag A2 n2 c2 ls w ((short_any A n c k A2 n2 c2 ls w h hc hn h2 hn2 hl).mono ?_) ht
  rintro e w' ⟨g, rfl, _, hb, hB⟩
  have h6 := hb.rdAll
  rw [List.length_take, Mc.tag_len] at h6
  exact ⟨_, _, rfl, h6, hB⟩
end Go.Proofs.YtlbnibmcflmohaaGreat
namespace Go.Proofs.YtlbnibmcflmohaaGreat
open Go.RowKit
theorem agI64 (w : World) : (isAgg 3).run Tryz.prog w = .ok false w := by kernel_rfl
def flC (key : List UInt8) (used : Int) : List Value := u8s key ++ [.int .i64 used]
set_option maxRecDepth 100000 in
set_option maxHeartbeats 1000000 in
theorem fnew_any (A : Option Addr) (c : Nat) (key : List UInt8) (w : World) (h : Rd w A 32 (u8s key)) :
    Calls Tryz.prog 43 #[.slice A 32 c] w fun e w' => e = .returned (.tuple #[.pointer (some ⟨w.heap.size, 0, none⟩), .int .i64 0]) ∧ Blk w' w.heap.size 120 (flC key 0) ∧ Below w.heap.size w w' := by
  have HR := Lib.hid h
  have HT : Hid ((u8s key).take 32 = u8s key) := List.take_of_length_le (by rw [u8s_length, h.len]; exact Nat.le_refl _)
  have HSP : Hid (splice (flC (List.replicate 32 0) 0) 0 (u8s key) = flC key 0) := by
    show _ = _
    unfold flC
    unfold splice
    rw [List.take_zero, List.nil_append, Nat.zero_add, List.drop_left' (by rw [u8s_length, u8s_length, h.len, List.length_replicate])]
  clear h
  go_enter Tryz.func43, Tryz.ntmps43
  go_wp2_with (refine wpList_copy rfl (.tmp 13) (.tmp 14) 23 rfl 5 Tryz.underlying23 u8_one1 w.heap.size 0 32 32 (by rfl) A 32 c (by rfl) 120 (flC (List.replicate 32 0) 0) (by exact Blk.new' rfl rfl) (u8s key) (by exact HR.out.alloc _) (u8s_one _) (by exact Nat.le_of_ble_eq_true rfl) ?_
               intro w2 hb2 ho2
               rw [HT.out, HSP.out] at hb2
               have HB2 := Lib.hid hb2
               have HE2 := Lib.hid (ho2.below ((Below.refl _ _).alloc (Nat.le_refl _) _) (Nat.le_refl _) (by simp))
               clear hb2 ho2)
  go_ret2
  exact ⟨rfl, HB2.out, HE2.out⟩
theorem flC_used (key : List UInt8) (u : Int) (hk : key.length = 32) : (flC key u)[32]? = some (.int .i64 u) := by
  unfold flC
  rw [List.getElem?_append_right (by rw [u8s_length, hk]; exact Nat.le_refl _), u8s_length, hk]
  rfl
theorem flC_set (key : List UInt8) (u v : Int) (hk : key.length = 32) : (flC key u).set 32 (.int .i64 v) = flC key v := by
  unfold flC
  rw [List.set_append_right _ _ (by rw [u8s_length, hk]; exact Nat.le_refl _), u8s_length, hk]
  rfl
theorem flC_key (key : List UInt8) (u : Int) (hk : key.length = 32) : ((flC key u).drop 0).take 32 = u8s key := by
  unfold flC
  rw [List.drop_zero, List.take_append_of_le_length (by rw [u8s_length, hk]; exact Nat.le_refl _), List.take_of_length_le (by rw [u8s_length, hk]; exact Nat.le_refl _)]
theorem flC_len (key : List UInt8) (u : Int) (hk : key.length = 32) : (flC key u).length = 33 := by
  unfold flC
  rw [List.length_append, u8s_length, hk]
  rfl
set_option maxRecDepth 100000 in
set_option maxHeartbeats 4000000 in
theorem fnext_any (g : Nat) (key : List UInt8) (used n : Nat) (w : World) (hb : Blk w g 120 (flC key (used : Int))) (hk : key.length = 32) (hun : used + n ≤ 65536) :
    Calls Tryz.prog 63 #[.pointer (some ⟨g, 0, none⟩), .int .i64 n] w fun e w' => ∃ A' c', e = .returned (.tuple #[.slice A' n c', .int .i64 0]) ∧ n ≤ c' ∧ w'.ownsRow w.heap.size 5 1 (.slice A' n c') n (u8s (Ch.piece key used n)) ∧ Blk w' g 120 (flC key ((used + n : Nat) : Int)) ∧ Wrote g w w' := by
  have HB := Lib.hid hb
  have HK := Lib.hid hk
  have hc0 : w.cell? ⟨g, 32, none⟩ = some (.int .i64 used) := by rw [hb.cell]; exact flC_used key _ hk
  have HP : Hid (∀ W, Rd W (some ⟨g, 0, none⟩) 32 (u8s key) → Calls Tryz.prog 61 #[.slice (some ⟨g, 0, none⟩) 32 32, .int .i64 used, .int .i64 n] W fun e w' => ∃ A' c', e = .returned (.slice A' n c') ∧ n ≤ c' ∧ w'.ownsRow W.heap.size 5 1 (.slice A' n c') n (u8s (Ch.piece key used n)) ∧ Below W.heap.size W w') := fun W h => piece_any _ 32 key used n W h (by omega) (by omega)
  have HR : Hid (∀ W, Blk W g 120 (flC key used) → Rd W (some ⟨g, 0, none⟩) 32 (u8s key)) := fun W h => by
    have h6 := h.rd 0 32 (by rw [flC_len _ _ hk]; omega)
    rwa [flC_key _ _ hk] at h6
  have hn0 : ¬ (n : Int) < 0 := by omega
  have hn1 : ¬ (65536 : Int) < (n : Int) := by omega
  have hn2 : ¬ (65536 : Int) - (used : Int) < (n : Int) := by omega
  clear hb hk
  go_enter Tryz.func63, Tryz.ntmps63
  go_wp2_with fail
  have hT : w.drew.cell? ⟨g, 32, none⟩ = some (.int .i64 used) := hc0
  refine region_K (by kernel_rfl) 9 (fun w' => w'.cell? ⟨g, 32, none⟩ = some (.int .i64 used)) ?_
  refine AnyK.pure 0 (v := .pointer (some ⟨g, 0, none⟩)) rfl (by kernel_rfl) (fun _ _ _ h => h) rfl (fun _ => by kernel_rfl) (fun _ => hT) ?_
  refine AnyK.pure 1 (v := .pointer (some ⟨g, 0, none⟩)) rfl (by kernel_rfl) (fun _ _ _ h => h) rfl (fun _ => by kernel_rfl) (fun _ => hT) ?_
  refine AnyK.pure 2 (v := .pointer (some ⟨g, 0, none⟩)) rfl (by kernel_rfl) (fun _ _ _ h => h) rfl (fun _ => by kernel_rfl) (fun _ => hT) ?_
  refine AnyK.pure 3 (v := .slice (some ⟨g, 0, none⟩) 32 32) rfl (by kernel_rfl) (fun _ _ _ h => h) rfl (fun _ => by kernel_rfl) (fun _ => hT) ?_
  refine AnyK.pure 4 (v := .pointer (some ⟨g, 0, none⟩)) rfl (by kernel_rfl) (fun _ _ _ h => h) rfl (fun _ => by kernel_rfl) (fun _ => hT) ?_
  refine AnyK.pure 5 (v := .pointer (some ⟨g, 0, none⟩)) rfl (by kernel_rfl) (fun _ _ _ h => h) rfl (fun _ => by kernel_rfl) (fun _ => hT) ?_
  refine AnyK.pure 6 (v := .pointer (some ⟨g, 32, none⟩)) rfl (by kernel_rfl) (fun _ _ _ h => h) rfl (fun _ => by kernel_rfl) (fun _ => hT) ?_
  refine AnyK.load 7 (v := .int .i64 used) rfl (by kernel_rfl) (by kernel_rfl) (by kernel_rfl) (fun _ _ _ h => h) rfl (fun w' hw' => ex_load (t := 3) (x := .tmp 26) (p := ⟨g, 32, none⟩) (by rfl) (by kernel_rfl) agI64 hw') hT ?_
  refine AnyK.pure 8 (v := .int .i64 n) rfl (by kernel_rfl) (fun _ _ _ h => h) rfl (fun _ => by kernel_rfl) (fun _ => hT) ?_
  refine AnyK.enter 9 (d := some 29) (f := 61) (args := #[.slice (some ⟨g, 0, none⟩) 32 32, .int .i64 used, .int .i64 n]) (by rfl) (by kernel_rfl) (by kernel_rfl) ?_
  refine (HP.out _ (HR.out _ HB.out.drew)).mono ?_
  rintro e w1 ⟨A', c', rfl, hc', hown, hB⟩
  refine ⟨_, rfl, fun h => (by cases h), ?_⟩
  refine AnyK.val 10 (v := .slice A' n c') rfl (by kernel_rfl) rfl (by kernel_rfl) (fun h => (by cases h)) ?_
  refine AnyK.done (by kernel_rfl) ?_
  have hb1 : Blk w1 g 120 (flC key used) := HB.out.drew.below hB HB.out.drew.lt
  have hc1 : w1.cell? ⟨g, 32, none⟩ = some (.int .i64 used) := by rw [hb1.cell]; exact flC_used key _ HK.out
  have hf1 := hb1.frozen 32
  have HB1 := Lib.hid hb1
  have HO1 := Lib.hid hown
  have HE1 : Hid (Below w.heap.size w w1) := (Below.refl _ w).drew.trans hB
  clear hT hb1 hown hB
  go_wp2_with fail
  go_ret2
  have h5 := HB1.out.set_ 32 (.int .i64 ((used + n : Nat) : Int))
  rw [flC_set _ _ _ HK.out] at h5
  have h6 := own_only HO1.out (Only.of_setCells w1 g 32 [.int .i64 ((used + n : Nat) : Int)]) (fun k hk => by have h9 : w.heap.size ≤ k := (HO1.out.lt k hk).1; have := HB.out.lt; omega)
  have h7 := (Wrote.of_below (g := g) HE1.out).setCell 32 (.int .i64 ((used + n : Nat) : Int))
  exact ⟨A', c', rfl, hc', h6, h5, h7⟩
end Go.Proofs.YtlbnibmcflmohaaGreat
namespace Go.Proofs.YtlbnibmcflmohaaGreat
open Go.RowKit
theorem xor_zeros (x : List UInt8) : Ch.xor (Ch.zeros x.length) x = x := by
  unfold Ch.xor Ch.zeros
  induction x with
  | nil => rfl
  | cons a x ih => simp [List.replicate_succ, ih]
theorem u8s_zeros (n : Nat) : u8s (Ch.zeros n) = rep n (.int .u8 0) := by simp [u8s, Ch.zeros, rep, u8]
def acc2 (n : Nat) (x y : List UInt8) : Nat → List UInt8
  | 0 => Ch.zeros n
  | 1 => x
  | _ => Ch.xor x y
theorem acc2_next {n : Nat} {x y l : List UInt8} {i : Nat} (hx : x.length = n) (h : [x, y][i]? = some l) : Ch.xor (acc2 n x y i) l = acc2 n x y (i + 1) := by
  match i with
  | 0 => simp at h; subst h; subst hx; exact xor_zeros _
  | 1 => simp at h; subst h; rfl
  | i + 2 => simp at h
theorem acc2_len {n : Nat} {x y : List UInt8} (hx : x.length = n) (hy : y.length = n) (i : Nat) : (acc2 n x y i).length = n := by
  match i with
  | 0 => simp [acc2, Ch.zeros]
  | 1 => exact hx
  | i + 2 => show (Ch.xor x y).length = n; rw [Ch.xor_len _ _ (by omega), hx]
set_option maxRecDepth 100000 in
set_option maxHeartbeats 4000000 in
theorem pxor_any (A : Option Addr) (c n : Nat) (x y : List UInt8) (w : World) (h : RdB w A 2 [x, y]) (hx : x.length = n) (hy : y.length = n) (hn : n ≤ 1000000) :
    Calls Tryz.prog 41 #[.slice A 2 c] w fun e w' => ∃ A' c', e = .returned (.tuple #[.slice A' n c', .int .i64 0]) ∧ n ≤ c' ∧ w'.ownsRow w.heap.size 5 1 (.slice A' n c') n (u8s (Ch.xor x y)) ∧ Below w.heap.size w w' := by
  have HX := Lib.hid hx
  have HY := Lib.hid hy
  have HR := Lib.hid h
  have h20 : ((2 : Nat) : Int) = 2 := rfl
  clear h hx hy
  go_enter Tryz.func41, Tryz.ntmps41
  go_wp2_with fail
  go_loopg [16] 2 (fun kk q wr => ∃ i : Nat, i ≤ 2 ∧ kk = 2 - i ∧ q = .int .i64 i ∧ w = wr)
  case atStart => exact ⟨0, by omega, rfl, rfl, rfl⟩
  case round =>
    obtain ⟨i, hi, hgk, rfl, rfl⟩ := hrel
    have HGK := Lib.hid hgk
    clear hgk
    obtain ⟨b, off, A1, n1, c1, l, rfl, hb, HL, hcl, hnc, hr1⟩ := HR.out.at_ (k := 0) (by omega)
    have hl : l = x := by have := HL.out; simp at this; exact this.symm
    subst hl
    obtain rfl : n1 = n := by rw [← hr1.len, HX.out]
    rw [Nat.add_zero] at hcl
    obtain rfl | rfl | rfl : i = 0 ∨ i = 1 ∨ i = 2 := by omega
    · have hlt2 : ((0 : Nat) : Int) < ((2 : Nat) : Int) := by omega
      clear HL hr1
      go_wp2_with fail
      go_roundg (2 - (0 + 1))
      case measure => have := HGK.out; omega
      case rel => exact ⟨0 + 1, by omega, rfl, by go_num, rfl⟩
    · have hlt2 : ((1 : Nat) : Int) < ((2 : Nat) : Int) := by omega
      have h1b : ((1 : Nat) : Int) = 1 := rfl
      obtain ⟨b2, off2, A2, n2, c2, l2, e2, _, HL2, hcl2, _, hr2⟩ := HR.out.at_ (k := 1) (by omega)
      injection e2 with e2
      injection e2 with e2 e3
      subst e2
      subst e3
      have hl : l2 = y := by have := HL2.out; simp at this; exact this.symm
      subst hl
      obtain rfl : n2 = n1 := by rw [← hr2.len, HY.out]
      clear HL hr1 HL2 hr2
      go_wp2_with fail
      go_roundg (2 - (1 + 1))
      case measure => have := HGK.out; omega
      case rel => exact ⟨1 + 1, by omega, rfl, by go_num, rfl⟩
    · have hlt2 : ¬ ((2 : Nat) : Int) < ((2 : Nat) : Int) := by omega
      clear HL hr1
      go_wp2_with (refine wpList_make1 rfl (.tmp 31) (.tmp 31) 23 rfl 5 (.int .u8 0) 1 Tryz.underlying23 iU8 rfl .i64 .i64 (n1 : Int) (n1 : Int) (by rfl) (by rfl) n1 n1 rfl rfl (by omega) (by omega) (by omega) ?_
                   intro w2 hb2 hg2 hs2
                   have HO2 : Hid (w2.ownsRow w.heap.size 5 1 (.slice (some ⟨w.heap.size, 0, none⟩) n1 n1) n1 (u8s (acc2 n1 l y 0))) := (by have h5 := own_of_blk hb2 (Nat.le_refl _) n1 n1 1 (Nat.le_refl _) (by simp [rep_length]) (by omega); rw [List.take_of_length_le (by simp [rep_length])] at h5; rw [show u8s (acc2 n1 l y 0) = rep n1 (.int .u8 0) from u8s_zeros n1]; exact h5)
                   have HB2 : Hid (Below w.heap.size w w2) := grown_below hg2
                   clear hb2 hg2 hs2)
      go_loopg [35] 2 (fun kk q wr => ∃ i : Nat, i ≤ 2 ∧ kk = 2 - i ∧ q = .int .i64 i ∧ wr.ownsRow w.heap.size 5 1 (.slice (some ⟨w.heap.size, 0, none⟩) n1 n1) n1 (u8s (acc2 n1 l y i)) ∧ Below w.heap.size w wr)
      case atStart => exact ⟨0, by omega, rfl, rfl, HO2.out, HB2.out⟩
      case round =>
        clear HO2 HB2
        obtain ⟨i, hi, hgk2, rfl, hown, hB⟩ := hrel
        have HGK2 := Lib.hid hgk2
        clear hgk2
        by_cases hlt : i < 2
        · have hlt3 : (i : Int) < 2 := by omega
          obtain ⟨b2, off2, A2, n2, c2, l2, e2, hb2, HL2, hcl2, _, hr2⟩ := HR.out.at_ (k := i) hlt
          injection e2 with e2
          injection e2 with e2 e3
          subst e2
          subst e3
          have HACC := Lib.hid (acc2_next (n := n1) HX.out HL2.out)
          have hal := acc2_len HX.out HY.out i
          have hl2l : l2.length = n1 := by
            have h6 := HL2.out
            obtain rfl | rfl : i = 0 ∨ i = 1 := by omega
            · simp at h6; rw [← h6]; exact HX.out
            · simp at h6; rw [← h6]; exact HY.out
          obtain rfl : n2 = n1 := by rw [← hr2.len, hl2l]
          obtain ⟨X, hXe⟩ : ∃ X, X = acc2 n2 l y i := ⟨_, rfl⟩
          rw [← hXe] at hown hal HACC
          have HXY : Hid (X.length = l2.length) := by show _ = _; rw [hal, hl2l]
          have HAL := Lib.hid hal
          have HO0 : Hid (wr.ownsRow w.heap.size 5 1 (.slice (some ⟨w.heap.size, 0, none⟩) n2 n2) n2 (u8s (mixed X l2 0))) := by show World.ownsRow _ _ _ _ _ _ _; rw [mixed_0]; exact hown
          have HME : Hid (mixed X l2 n2 = acc2 n2 l y (i + 1)) := by show _ = _; rw [← HACC.out, ← HAL.out]; exact mixed_end X l2 HXY.out
          have hcl4 : wr.cell? ⟨b, off + i, none⟩ = some (.slice A2 n2 c2) := (hB.cell (p := ⟨b, off + i, none⟩) hb2).trans hcl2
          have HBE := Lib.hid hB
          have HR2 := Lib.hid hr2
          clear HL2 hcl2 hr2 hXe hown hal HACC hB hl2l
          go_wp2_with fail
          go_loopg [41] n2 (fun kk q wr => ∃ j : Nat, j ≤ n2 ∧ kk = n2 - j ∧ q = .int .i64 j ∧ wr.ownsRow w.heap.size 5 1 (.slice (some ⟨w.heap.size, 0, none⟩) n2 n2) n2 (u8s (mixed X l2 j)) ∧ Below w.heap.size w wr)
          case atStart => exact ⟨0, by omega, rfl, rfl, HO0.out, HBE.out⟩
          case round =>
            clear HO0 HBE hcl4
            obtain ⟨j, hj, hjk, rfl, hown, hB⟩ := hrel
            have HJK := Lib.hid hjk
            clear hjk
            by_cases hlt4 : j < n2
            · have hlt5 : (j : Int) < (n2 : Int) := by omega
              obtain ⟨g5, o5, v, rfl, hbl, HV, cv⟩ := (HR2.out.below hB).u8 hlt4
              obtain ⟨u, hu⟩ : ∃ u, X[j]? = some u := ⟨_, List.getElem?_eq_getElem (by rw [HAL.out]; exact hlt4)⟩
              have HU := Lib.hid hu
              have hml := mixed_len X l2 j HXY.out
              have cu : wr.cell? ⟨w.heap.size, j, none⟩ = some (.int .u8 u.toNat) := (hown.cellAt j (by omega)).trans (by rw [u8s_getElem?, mixed_get X l2 j HXY.out (by rw [HAL.out]; exact hlt4), hu]; rfl)
              have fu := hown.frozenAt j
              have hst := (hown.stored j (.int .u8 (u ^^^ v).toNat)).1
              rw [u8s_set, mixed_set X l2 j HXY.out hu HV.out] at hst
              have HST := Lib.hid hst
              have HB3 := Lib.hid (hB.setCell (p := ⟨w.heap.size, j, none⟩) (Nat.le_refl _) (.int .u8 (u ^^^ v).toNat))
              have HXR := Lib.hid (w8_xor u v)
              clear hst hown hml hu hB
              go_wp2_with fail
              rw [HXR.out]
              go_roundg (n2 - (j + 1))
              case measure => have := HJK.out; omega
              case rel => exact ⟨j + 1, by omega, rfl, by go_num, HST.out, HB3.out⟩
            · obtain rfl : j = n2 := by omega
              have hlt5 : ¬ (j : Int) < (j : Int) := by omega
              rw [HME.out] at hown
              have HO := Lib.hid hown
              clear hown
              go_wp2_with fail
              go_roundg (2 - (i + 1))
              case measure => have := HGK2.out; omega
              case rel => exact ⟨i + 1, by omega, rfl, by go_num, HO.out, hB⟩
        · obtain rfl : i = 2 := by omega
          have hlt3 : ¬ ((2 : Nat) : Int) < 2 := by omega
          have HO : Hid (wr.ownsRow w.heap.size 5 1 (.slice (some ⟨w.heap.size, 0, none⟩) n1 n1) n1 (u8s (Ch.xor l y))) := hown
          clear hown
          go_wp2_with fail
          go_ret2
          exact ⟨_, _, rfl, Nat.le_refl _, HO.out, hB⟩
end Go.Proofs.YtlbnibmcflmohaaGreat
namespace Go.Proofs.YtlbnibmcflmohaaGreat
open Go.RowKit
set_option maxRecDepth 100000 in
set_option maxHeartbeats 4000000 in
theorem fturn_any (g : Nat) (key : List UInt8) (used : Nat) (A : Option Addr) (n c : Nat) (ls : List (List UInt8)) (N : Nat) (w : World) (hb : Blk w g 120 (flC key (used : Int))) (hk : key.length = 32)
    (hp : ∀ w', Wrote g w w' → RdB w' A n ls) (hn : n ≤ 1000000) (hN : ls.flatten.length = N) (hun : used + N ≤ 65536) :
    Calls Tryz.prog 44 #[.pointer (some ⟨g, 0, none⟩), .slice A n c] w fun e w' => ∃ A' c', e = .returned (.tuple #[.slice A' N c', .int .i64 0]) ∧ N ≤ c' ∧ w'.ownsRow w.heap.size 5 1 (.slice A' N c') N (u8s (Ch.xor ls.flatten (Ch.piece key used N))) ∧ Blk w' g 120 (flC key ((used + N : Nat) : Int)) ∧ Wrote g w w' := by
  have HK := Lib.hid hk
  have HP := Lib.hid hp
  have HN := Lib.hid hN
  have HR := Lib.hid (hp w (Wrote.refl _ _))
  have hc0 : w.cell? ⟨g, 32, none⟩ = some (.int .i64 used) := by rw [hb.cell]; exact flC_used key _ hk
  have HNX := Lib.hid (fnext_any g key used N w hb hk hun)
  have hgl : g < w.heap.size := hb.lt
  have hpl := Ch.piece_len key used N
  have hll : ls.length = n := by obtain ⟨_, _, h, _⟩ := HR.out; exact h
  have HLL := Lib.hid hll
  obtain ⟨S, hS⟩ : ∃ S, S = Ch.piece key used N := ⟨_, rfl⟩
  rw [← hS] at HNX hpl ⊢
  obtain ⟨F, hF⟩ : ∃ F, F = ls.flatten := ⟨_, rfl⟩
  have HF := Lib.hid hF.symm
  have hFN : F.length = N := by rw [hF]; exact hN
  rw [← hF]
  have HX : Hid (∀ W B, RdB W (some ⟨B, 0, none⟩) 2 [F, S] → Calls Tryz.prog 41 #[.slice (some ⟨B, 0, none⟩) 2 2] W fun e w' => ∃ A' c', e = .returned (.tuple #[.slice A' N c', .int .i64 0]) ∧ N ≤ c' ∧ w'.ownsRow W.heap.size 5 1 (.slice A' N c') N (u8s (Ch.xor F S)) ∧ Below W.heap.size W w') := fun W B h => pxor_any _ 2 N F S W h hFN hpl (by omega)
  clear hb hk hp hN hS hF hll
  have HFN := Lib.hid hFN
  clear hFN
  go_enter Tryz.func44, Tryz.ntmps44
  go_wp2_with fail
  go_loop [6, 13] (fun t i => ∃ k : Nat, k ≤ n ∧ i = .int .i64 k ∧ t = .int .i64 ((ls.take k).flatten.length)) (fun _ i => n - (intOf i).toNat)
  case atStart => exact ⟨0, Nat.zero_le _, rfl, rfl⟩
  case round =>
    obtain ⟨k, hkn, rfl, rfl⟩ := hrel
    have hle := flat_take_le ls k
    by_cases hlt : k < n
    · have hlt2 : (k : Int) < (n : Int) := by omega
      obtain ⟨b, off, A1, n1, c1, l, rfl, hb, HXL, hc, hn1, hr1⟩ := HR.out.at_ hlt
      have hs := flat_take_succ ls k l HXL.out
      have hle' := flat_take_le ls (k + 1)
      have hlen : (ls.take (k + 1)).flatten.length = (ls.take k).flatten.length + n1 := by rw [hs, List.length_append, hr1.len]
      have HS := Lib.hid hlen
      have hb1 : used + ((ls.take k).flatten.length + n1) ≤ 65536 := by have := HFN.out; have := congrArg List.length HF.out; omega
      clear hs hlen hle' hle
      generalize hT : (ls.take k).flatten.length = T at *
      have HT := Lib.hid hT
      clear hT
      have hgt : ¬ (65536 : Int) - (used : Int) - (T : Int) < (n1 : Int) := by omega
      clear hr1 HXL
      go_wp2_with fail
      go_round
      case rel => exact ⟨k + 1, by omega, by go_num, by rw [HS.out]; go_num⟩
      case measure => simp [intOf]; omega
    · have hkn : k = n := by omega
      subst hkn
      have hlt2 : ¬ (k : Int) < (k : Int) := by omega
      rw [show (ls.take k).flatten.length = N by rw [List.take_of_length_le (by rw [HLL.out]; exact Nat.le_refl _), HF.out, HFN.out]]
      clear hlt hle
      go_wp2_with (first
        | (go_at_call 63; (with_reducible refine HNX.out.mono ?_); rintro e w1 ⟨A1, c1, rfl, hc1, hown1, hb1, hw1⟩
           have HR1 := Lib.hid (HP.out w1 hw1)
           have HO1 := Lib.hid hown1
           have HB1 := Lib.hid hb1
           have HW1 := Lib.hid hw1
           have hs1 := hw1.size
           clear hown1 hb1 hw1)
        | (go_at_call 22; (with_reducible refine (join_to A k c ls w1 (by exact HR1.out) (by omega) F N (by exact HF.out) (by exact HFN.out) (by omega)).mono ?_); rintro e w2 ⟨A2, c2, rfl, hc2, hown2, hB2⟩
           have HO2 := Lib.hid hown2
           have HB2 := Lib.hid hB2
           have hs2 := hB2.size
           have HQ : Hid (RdB (w2.alloc (.cells #[.slice A2 N c2, .slice A1 N c1] 23)) (some ⟨w2.heap.size, 0, none⟩) 2 [F, S]) := RdB.of_blk (Blk.new w2 23 [.slice A2 N c2, .slice A1 N c1]) ⟨.of_rd ((Rd.of_own HO2.out).alloc _) hc2, .of_rd (((Rd.of_own HO1.out).below HB2.out).alloc _) hc1, trivial⟩
           clear hown2 hB2)
        | (go_at_call 41; (with_reducible refine (HX.out _ _ (by exact HQ.out)).mono ?_); rintro e w3 ⟨A3, c3, rfl, hc3, hown3, hB3⟩
           have HO3 := Lib.hid (own_mono hown3 (base' := w.heap.size) (by simp; omega))
           have HE3 := Lib.hid (HB2.out.trans ((((Below.refl _ w2).alloc (Nat.le_refl _) _).trans (hB3.mono (by simp))).mono HB2.out.size))
           clear hown3 hB3))
      go_ret2
      exact ⟨A3, c3, rfl, hc3, HO3.out, HB1.out.below HE3.out (by omega), HW1.out.then HE3.out⟩
set_option maxRecDepth 100000 in
set_option maxHeartbeats 1000000 in
theorem turn_to (B : Option Addr) (d : Nat) (key : List UInt8) (A : Option Addr) (n c : Nat) (ls : List (List UInt8)) (F : List UInt8) (N : Nat) (w : World) (hk : Rd w B 32 (u8s key)) (h : RdB w A n ls) (hn : n ≤ 1000000) (hF : ls.flatten = F) (hN : F.length = N) (hun : N ≤ 65536) :
    Calls Tryz.prog 21 #[.slice B 32 d, .slice A n c] w fun e w' => ∃ A' c', e = .returned (.tuple #[.slice A' N c', .int .i64 0]) ∧ N ≤ c' ∧ w'.ownsRow w.heap.size 5 1 (.slice A' N c') N (u8s (Ch.turn key F)) ∧ Below w.heap.size w w' := by
  subst hF
  have HNW := Lib.hid (fnew_any B d key w hk)
  have hkl := hk.len
  have HT : Hid (∀ W, Blk W w.heap.size 120 (flC key 0) → Below w.heap.size w W → Calls Tryz.prog 44 #[.pointer (some ⟨w.heap.size, 0, none⟩), .slice A n c] W fun e w' => ∃ A' c', e = .returned (.tuple #[.slice A' N c', .int .i64 0]) ∧ N ≤ c' ∧ w'.ownsRow W.heap.size 5 1 (.slice A' N c') N (u8s (Ch.turn key ls.flatten)) ∧ Below w.heap.size w w') := fun W hb hB => by
    refine (fturn_any w.heap.size key 0 A n c ls N W hb hkl (fun w' hw => h.below (hw.below hB (Nat.le_refl _) hB.size)) hn hN (by omega)).mono ?_
    rintro e w' ⟨A', c', rfl, hc', ho, _, hw⟩
    refine ⟨A', c', rfl, hc', ?_, hw.below hB (Nat.le_refl _) hB.size⟩
    unfold Ch.turn
    rw [hN]
    exact ho
  clear hk h hN hkl
  go_enter Tryz.func21, Tryz.ntmps21
  go_wp2_with (first
    | (go_at_call 43; (with_reducible refine HNW.out.mono ?_); rintro e w1 ⟨rfl, hb1, hB1⟩
       have HB1 := Lib.hid hb1
       have HE1 := Lib.hid hB1
       clear hb1 hB1)
    | (go_at_call 44; (with_reducible refine (HT.out w1 (by exact HB1.out) (by exact HE1.out)).mono ?_); rintro e w2 ⟨A2, c2, rfl, hc2, hown2, hB2⟩
       have HO2 := Lib.hid (own_mono hown2 (base' := w.heap.size) HE1.out.size)
       have HE2 := Lib.hid hB2
       clear hown2 hB2))
  go_ret2
  exact ⟨A2, c2, rfl, hc2, HO2.out, HE2.out⟩
end Go.Proofs.YtlbnibmcflmohaaGreat
