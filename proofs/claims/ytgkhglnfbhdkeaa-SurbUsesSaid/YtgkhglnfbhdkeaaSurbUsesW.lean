/- SurbUses: the walks. -/
import Derived.Test.YtgkhglnfbhdkeaaSurA
import Derived.Test.YtgkhglnfbhdkeaaR16
import Derived.Test.YtgkhglnfbhdkeaaOpen
import Derived.Test.YtgkhglnfbhdkeaaRg
namespace Go.Proofs.Ytgkhglnfbhdkeaa.surbUses
open Go.RowKit
set_option linter.unusedVariables false

theorem ldq_p (v : Value) : Instr.loadAt 37 v = ldAt 37 v := rfl
theorem stq_p (p v : Value) : Instr.storeAt 37 p v = stAt 37 p v := rfl
attribute [local go_sem ↓] ldq_37 stq_37 ldq_34s stq_34s ldq_p stq_p
def UK (w : World) (N gB : Nat) (C : List Value) (B : Option Addr) (n : Nat) (msg : List UInt8) (W : World) : Prop := Blk W gB 31 C ∧ Rd W B n (u8s msg) ∧ Below w.heap.size w W ∧ N ≤ W.heap.size
theorem UK.below {w W W' : World} {N gB : Nat} {C : List Value} {B : Option Addr} {n : Nat} {msg : List UInt8} (h : UK w N gB C B n msg W) (hB : Below W.heap.size W W') : UK w N gB C B n msg W' :=
  ⟨h.1.below hB h.1.lt, h.2.1.below hB, h.2.2.1.trans (hB.mono h.2.2.1.size), Nat.le_trans h.2.2.2 hB.size⟩
theorem UK.alloc {w W : World} {N gB : Nat} {C : List Value} {B : Option Addr} {n : Nat} {msg : List UInt8} (h : UK w N gB C B n msg W) (o : Obj) : UK w N gB C B n msg (W.alloc o) := h.below ((Below.refl _ _).alloc (Nat.le_refl _) o)

set_option maxRecDepth 100000 in
set_option maxHeartbeats 1000000 in
theorem walk_no (A B : Option Addr) (n c m d : Nat) (w : World) (hne : ¬ n = 328) :
    Calls Try.prog 3 #[.slice A n c, .slice B m d] w fun e w' => e = .returned (.bool true) ∧ Below w.heap.size w w' := by
  have hne' : ((n : Int) != 328) = true := by rw [bne_iff_ne]; omega
  clear hne
  go_enter Try.func3, Try.ntmps3
  go_wp2_with (go_at_call 8; refine (awake16 _).mono ?_; rintro e w1 ⟨rfl, hB1⟩)
  go_ret
  exact ⟨rfl, hB1⟩

set_option maxRecDepth 100000 in
set_option maxHeartbeats 1000000 in
theorem walk_zero (A B : Option Addr) (c m d : Nat) (l : List UInt8) (w : World) (h : Rd w A 328 (u8s l)) (h0 : beNat (l.take 8) = 0) :
    Calls Try.prog 3 #[.slice A 328 c, .slice B m d] w fun e w' => e = .returned (.bool true) ∧ Below w.heap.size w w' := by
  have H0 := Lib.hid h0
  have HR := Lib.hid h
  clear h0 h
  go_enter Try.func3, Try.ntmps3
  go_wp2_with (first
    | (go_at_call 8; refine (awake16 _).mono ?_; rintro e w1 ⟨rfl, hB1⟩)
    | (go_at_call 9; refine (sparse_zero A c l _ (HR.out.below hB1) H0.out).mono ?_; rintro e w3 ⟨rfl, hB3⟩)
    | (refine wpList_store_all rfl 31 (.tmp 5) (.tmp 18) rfl w3.heap.size z37 (by rfl) (by rfl) 31 z37 (Blk.new' rfl zc37) (by rw [z37_len]; exact hd37) z37_one rfl ?_
       intro w4 hb4 ho4
       have hBw3 : Below w.heap.size w w3 := hB1.trans (hB3.mono hB1.size)
       have hB4 : Below w.heap.size w w4 := ho4.below (hBw3.alloc hBw3.size _) hBw3.size (by have := hBw3.size; simp; omega)
       clear hb4 ho4))
  go_ret
  exact ⟨rfl, hB4⟩

set_option maxRecDepth 100000 in
set_option maxHeartbeats 4000000 in
theorem walk_yes (A B : Option Addr) (c n d : Nat) (l msg : List UInt8) (w : World) (h : Rd w A 328 (u8s l)) (hc : 328 ≤ c) (h0 : beNat (l.take 8) ≠ 0) (h2 : Rd w B n (u8s msg)) (hn : n ≤ 450) :
    Calls Try.prog 3 #[.slice A 328 c, .slice B n d] w fun e w' => e = .returned (.bool true) ∧ Below w.heap.size w w' := by
  have hl : l.length = 328 := h.len
  have HL := Lib.hid hl
  have hml : msg.length = n := h2.len
  have H0 := Lib.hid h0
  have HR := Lib.hid h
  have HR2 := Lib.hid h2
  have hrl := replyOf_len l msg hl (by omega)
  have HRL := Lib.hid hrl
  have HUS := Lib.hid (fun W A5 c5 (hr : Rd W A5 n (u8s msg)) => use_yes l msg A5 n c5 W hl hr hn)
  have HI : Hid ((Try.prog.info? 31).map (·.size) = some (blkCells l).length) := by show _ = _; rw [blkCells_len _ hl]; exact hd37
  have HFZ : Hid ((blkCells l).length = z37.length) := by show _ = _; rw [blkCells_len _ hl, z37_len]
  have H1 : Hid (∀ v ∈ blkCells l, v.oneCell' = true) := blkCells_one l
  have HPA := Lib.hid (fun W (hr : Rd W A 328 (u8s l)) => sparse_yes A c l W hr hc H0.out)
  obtain ⟨C, hC⟩ : ∃ C, C = blkCells l := ⟨_, rfl⟩
  rw [← hC] at HUS HI HFZ H1 HPA
  have HRU := Lib.hid (fun W (h1 : Rd W A 328 (u8s l)) (h3 : Rd W B n (u8s msg)) => ruse_yes l msg A B n d c W h1 hc h3 hn)
  have HPB := Lib.hid (fun W => pbytes_any (replyOf l msg) W hrl)
  have HCM := Lib.hid (fun W (h3 : Rd W B n (u8s msg)) => copy_any B n d msg W h3 (by omega))
  obtain ⟨R, hR⟩ : ∃ R, R = replyOf l msg := ⟨_, rfl⟩
  rw [← hR] at HUS HRU HPB HRL
  have HI7 : Hid ((Try.prog.info? 37).map (·.size) = some (u8s R).length) := by show _ = _; rw [u8s_length, HRL.out]; exact hd76
  have HL7 : Hid ((u8s R).length = (u8s (List.replicate 768 0)).length) := by show _ = _; rw [u8s_length, HRL.out, z768_len]
  have H17 : Hid (∀ v ∈ u8s R, v.oneCell' = true) := u8s_one _
  clear hl hml h0 h h2 hrl hC hR
  go_enter Try.func3, Try.ntmps3
  go_wp2_with (first
    | (go_at_call 8; refine (awake16 _).mono ?_; rintro e w1 ⟨rfl, hB1⟩)
    | (go_at_call 9; (with_reducible refine (HPA.out _ (HR.out.below hB1)).mono ?_); rintro e w3 ⟨rfl, hB3⟩)
    | (refine wpList_store_all rfl 31 (.tmp 5) (.tmp 18) rfl w3.heap.size C (by rfl) (by rfl) 31 z37 (Blk.new' rfl zc37) HI.out H1.out HFZ.out ?_
       intro w4 hb4 ho4
       have hBw3 : Below w.heap.size w w3 := hB1.trans (hB3.mono hB1.size)
       have HE4 : Hid (Below w.heap.size w w4) := ho4.below (hBw3.alloc hBw3.size _) hBw3.size (by have := hBw3.size; simp; omega)
       have HB4 := Lib.hid hb4
       clear hb4 ho4 hBw3 hB1 hB3))
  have HLD : Hid (∀ W, Blk W w3.heap.size 31 C → (ldAt 31 (.pointer (some ⟨w3.heap.size, 0, none⟩))).run Try.prog W = .ok (.agg C.toArray) W) := fun W hb => ldAt_run hb _ 0 C (by rw [List.drop_zero, List.take_of_length_le (Nat.le_refl _)]) _ Try.underlying31 rfl HI.out
  generalize w3.heap.size = gB at *
  have HU0 : Hid (UK w w4.heap.size gB C B n msg w4.drew) := ⟨HB4.out.drew, HR2.out.below HE4.out.drew, HE4.out.drew, Nat.le_refl _⟩
  have hg4 := HB4.out.lt
  refine region_K (by kernel_rfl) 8 (fun w' => Blk w' gB 31 C) ?_
  refine AnyF.start 7 7 w4.heap.size 37 (u8s (List.replicate 768 0)) (UK w w4.heap.size gB C B n msg) HU0.out ?_
  refine AnyF.load 0 (v := .agg C.toArray) rfl (by decide) (fun g => by cases g <;> kernel_rfl) (by kernel_rfl) (fun g => by cases g <;> kernel_rfl) (fun _ _ _ h => h) rfl (by decide) (fun st w' hw' => ex_loadS rfl (by cases st <;> kernel_rfl) (HLD.out w' hw')) (fun _ h => h.1) ?_
  refine AnyF.pure 1 (v := .slice B n d) rfl (by decide) (fun g => by cases g <;> kernel_rfl) (fun _ _ _ h => h) rfl (by decide) (fun st _ => by cases st <;> kernel_rfl) (fun _ h => h.1) ?_
  refine AnyF.call 2 (d1 := 25) (f := 11) (args := #[.slice B n d]) (fun (x : Option Addr × Nat) => .slice x.1 n x.2) (fun x W => UK w w4.heap.size gB C B n msg W ∧ Rd W x.1 n (u8s msg)) rfl rfl rfl (by decide) (by decide) (fun st _ => by cases st <;> kernel_rfl) rfl rfl rfl (fun _ _ => by kernel_rfl) (.inl (by kernel_rfl)) (by kernel_rfl) (fun _ o h => h.alloc o) (fun _ h => h.2.2.2) (fun _ h => h.1) (fun _ _ h => h.1.1) (fun W hR => (HCM.out W hR.2.1).mono (by rintro e w' ⟨A5, c5, rfl, _, hown, hB⟩; exact ⟨(A5, c5), rfl, ⟨hR.below hB, Rd.of_own hown⟩, hB⟩)) ?_
  rintro ⟨A5, c5⟩
  refine AnyF.call 3 (d1 := 26) (f := 10) (args := #[.agg C.toArray, .slice A5 n c5]) (fun (_ : Unit) => .tuple #[.agg (u8s R).toArray, .int .i64 0]) (fun _ W => UK w w4.heap.size gB C B n msg W) rfl rfl rfl (by decide) (by decide) (fun st _ => by cases st <;> kernel_rfl) rfl rfl rfl (fun _ _ => by kernel_rfl) (.inl (by kernel_rfl)) (by kernel_rfl) (fun _ o h => ⟨h.1.alloc o, h.2.alloc o⟩) (fun _ h => h.1.2.2.2) (fun _ h => h.1.1) (fun _ _ h => h.1) (fun W hR => (HUS.out W A5 c5 hR.2).mono (by rintro e w' ⟨rfl, hB⟩; exact ⟨(), rfl, hR.1.below hB, hB⟩)) ?_
  rintro ⟨⟩
  refine AnyF.pure 4 (v := .tuple #[.agg (u8s R).toArray, .int .i64 0]) rfl (by decide) (fun g => by cases g <;> kernel_rfl) (fun _ _ _ h => h) rfl (by decide) (fun st _ => by cases st <;> kernel_rfl) (fun _ h => h.1) ?_
  refine AnyF.pure 5 (v := .agg (u8s R).toArray) rfl (by decide) (fun g => by cases g <;> kernel_rfl) (fun _ _ _ h => h) rfl (by decide) (fun st _ => by cases st <;> kernel_rfl) (fun _ h => h.1) ?_
  refine AnyF.pure 6 (v := .int .i64 0) rfl (by decide) (fun g => by cases g <;> kernel_rfl) (fun _ _ _ h => h) rfl (by decide) (fun st _ => by cases st <;> kernel_rfl) (fun _ h => h.1) ?_
  refine AnyF.fin rfl rfl rfl (fun _ _ => by kernel_rfl) (by kernel_rfl) (fun _ o h => h.alloc o) (fun _ h => h.2.2.2) (fun _ h => h.1) ?_
  intro gp w7 hgp hp7 hU7
  refine AnyK.storeAll 8 (t := 37) (x := .tmp 7) (y := .tmp 27) gp (u8s R) 37 (u8s (List.replicate 768 0)) rfl rfl rfl rfl (by kernel_rfl) (by kernel_rfl) (by kernel_rfl) hp7 HI7.out H17.out HL7.out (fun _ _ _ h => (by cases h)) ?_
  intro w8 hb8 ho8
  refine AnyK.pure 9 (v := .int .i64 0) rfl (by kernel_rfl) (fun _ _ _ h => h) rfl (fun _ => by kernel_rfl) (fun h => (by cases h)) ?_
  refine AnyK.done (by kernel_rfl) ?_
  have hgw : w.heap.size ≤ gp := Nat.le_trans HE4.out.size hgp
  have HE8 : Hid (Below w.heap.size w w8) := ho8.below hU7.2.2.1 hgw hU7.2.2.1.size
  have HB8 := Lib.hid hb8
  clear hb8 ho8 hp7 hU7 HU0 HLD HB4 HE4 hgp
  go_wp2_with (first
    | (go_at_call 12; (with_reducible refine (HRU.out _ (by exact HR.out.below HE8.out) (by exact HR2.out.below HE8.out)).mono ?_); rintro e w9 ⟨g9, c9, rfl, hc9, hr9, hB9⟩
       have HE9 := Lib.hid (HE8.out.trans (hB9.mono HE8.out.size))
       have HB9 := Lib.hid (HB8.out.below hB9 HB8.out.lt)
       have HR9 := Lib.hid hr9
       have hld9 : (ldAt 37 (.pointer (some ⟨gp, 0, none⟩))).run Try.prog w9 = .ok (.agg (u8s R).toArray) w9 := ldAt_run HB9.out _ 0 (u8s R) (by rw [List.drop_zero, List.take_of_length_le (Nat.le_refl _)]) _ Try.underlying37 rfl HI7.out
       clear hr9 hB9)
    | (go_at_call 14; (with_reducible refine (HPB.out _).mono ?_); rintro e w10 ⟨A10, c10, rfl, hc10, hown10, hB10⟩
       have HE10 := Lib.hid (HE9.out.trans (hB10.mono HE9.out.size))
       have HR10 := Lib.hid (HR9.out.below hB10)
       have HO10 := Lib.hid (Rd.of_own hown10)
       clear hown10 hB10)
    | (go_at_call 13; (with_reducible refine (equal_any A10 (some ⟨g9, 0, none⟩) 768 768 c10 c9 R R _ HO10.out HR10.out (by omega) (by omega)).mono ?_); rintro e w11 ⟨rfl, q11, rfl⟩))
  go_ret
  exact ⟨by simp, below_drewN HE10.out _⟩

set_option maxRecDepth 100000 in
set_option maxHeartbeats 4000000 in
theorem walk_big (A B : Option Addr) (c n d : Nat) (l msg : List UInt8) (w : World) (h : Rd w A 328 (u8s l)) (hc : 328 ≤ c) (h0 : beNat (l.take 8) ≠ 0) (h2 : Rd w B n (u8s msg)) (hn : 450 < n) (hb : n ≤ 140737488351232) :
    Calls Try.prog 3 #[.slice A 328 c, .slice B n d] w fun e w' => e = .returned (.bool true) ∧ Below w.heap.size w w' := by
  have hl : l.length = 328 := h.len
  have HL := Lib.hid hl
  have hml : msg.length = n := h2.len
  have H0 := Lib.hid h0
  have HR := Lib.hid h
  have HR2 := Lib.hid h2
  have HUS := Lib.hid (fun W A5 c5 => use_no l A5 n c5 W hn)
  have HI : Hid ((Try.prog.info? 31).map (·.size) = some (blkCells l).length) := by show _ = _; rw [blkCells_len _ hl]; exact hd37
  have HFZ : Hid ((blkCells l).length = z37.length) := by show _ = _; rw [blkCells_len _ hl, z37_len]
  have H1 : Hid (∀ v ∈ blkCells l, v.oneCell' = true) := blkCells_one l
  have HPA := Lib.hid (fun W (hr : Rd W A 328 (u8s l)) => sparse_yes A c l W hr hc H0.out)
  obtain ⟨C, hC⟩ : ∃ C, C = blkCells l := ⟨_, rfl⟩
  rw [← hC] at HUS HI HFZ H1 HPA
  have HRU := Lib.hid (fun W => ruse_no A B n d c W hn)
  have HCM := Lib.hid (fun W (h3 : Rd W B n (u8s msg)) => copy_any B n d msg W h3 (by omega))
  obtain ⟨U, hU⟩ : ∃ U, U = u8s (List.replicate 768 0) := ⟨_, rfl⟩
  have HI7 : Hid ((Try.prog.info? 37).map (·.size) = some U.length) := by show _ = _; rw [hU, z768_len]; exact hd76
  have HL7 : Hid (U.length = (u8s (List.replicate 768 0)).length) := by show _ = _; rw [hU]
  have H17 : Hid (∀ v ∈ U, v.oneCell' = true) := by rw [hU]; exact u8s_one _
  rw [← hU] at HUS
  clear hl hml h0 h h2 hC hU
  go_enter Try.func3, Try.ntmps3
  go_wp2_with (first
    | (go_at_call 8; refine (awake16 _).mono ?_; rintro e w1 ⟨rfl, hB1⟩)
    | (go_at_call 9; (with_reducible refine (HPA.out _ (HR.out.below hB1)).mono ?_); rintro e w3 ⟨rfl, hB3⟩)
    | (refine wpList_store_all rfl 31 (.tmp 5) (.tmp 18) rfl w3.heap.size C (by rfl) (by rfl) 31 z37 (Blk.new' rfl zc37) HI.out H1.out HFZ.out ?_
       intro w4 hb4 ho4
       have hBw3 : Below w.heap.size w w3 := hB1.trans (hB3.mono hB1.size)
       have HE4 : Hid (Below w.heap.size w w4) := ho4.below (hBw3.alloc hBw3.size _) hBw3.size (by have := hBw3.size; simp; omega)
       have HB4 := Lib.hid hb4
       clear hb4 ho4 hBw3 hB1 hB3))
  have HLD : Hid (∀ W, Blk W w3.heap.size 31 C → (ldAt 31 (.pointer (some ⟨w3.heap.size, 0, none⟩))).run Try.prog W = .ok (.agg C.toArray) W) := fun W hb => ldAt_run hb _ 0 C (by rw [List.drop_zero, List.take_of_length_le (Nat.le_refl _)]) _ Try.underlying31 rfl HI.out
  generalize w3.heap.size = gB at *
  have HU0 : Hid (UK w w4.heap.size gB C B n msg w4.drew) := ⟨HB4.out.drew, HR2.out.below HE4.out.drew, HE4.out.drew, Nat.le_refl _⟩
  have hg4 := HB4.out.lt
  refine region_K (by kernel_rfl) 8 (fun w' => Blk w' gB 31 C) ?_
  refine AnyF.start 7 7 w4.heap.size 37 (u8s (List.replicate 768 0)) (UK w w4.heap.size gB C B n msg) HU0.out ?_
  refine AnyF.load 0 (v := .agg C.toArray) rfl (by decide) (fun g => by cases g <;> kernel_rfl) (by kernel_rfl) (fun g => by cases g <;> kernel_rfl) (fun _ _ _ h => h) rfl (by decide) (fun st w' hw' => ex_loadS rfl (by cases st <;> kernel_rfl) (HLD.out w' hw')) (fun _ h => h.1) ?_
  refine AnyF.pure 1 (v := .slice B n d) rfl (by decide) (fun g => by cases g <;> kernel_rfl) (fun _ _ _ h => h) rfl (by decide) (fun st _ => by cases st <;> kernel_rfl) (fun _ h => h.1) ?_
  refine AnyF.call 2 (d1 := 25) (f := 11) (args := #[.slice B n d]) (fun (x : Option Addr × Nat) => .slice x.1 n x.2) (fun x W => UK w w4.heap.size gB C B n msg W ∧ Rd W x.1 n (u8s msg)) rfl rfl rfl (by decide) (by decide) (fun st _ => by cases st <;> kernel_rfl) rfl rfl rfl (fun _ _ => by kernel_rfl) (.inl (by kernel_rfl)) (by kernel_rfl) (fun _ o h => h.alloc o) (fun _ h => h.2.2.2) (fun _ h => h.1) (fun _ _ h => h.1.1) (fun W hR => (HCM.out W hR.2.1).mono (by rintro e w' ⟨A5, c5, rfl, _, hown, hB⟩; exact ⟨(A5, c5), rfl, ⟨hR.below hB, Rd.of_own hown⟩, hB⟩)) ?_
  rintro ⟨A5, c5⟩
  refine AnyF.call 3 (d1 := 26) (f := 10) (args := #[.agg C.toArray, .slice A5 n c5]) (fun (_ : Unit) => .tuple #[.agg U.toArray, .int .i64 2]) (fun _ W => UK w w4.heap.size gB C B n msg W) rfl rfl rfl (by decide) (by decide) (fun st _ => by cases st <;> kernel_rfl) rfl rfl rfl (fun _ _ => by kernel_rfl) (.inl (by kernel_rfl)) (by kernel_rfl) (fun _ o h => ⟨h.1.alloc o, h.2.alloc o⟩) (fun _ h => h.1.2.2.2) (fun _ h => h.1.1) (fun _ _ h => h.1) (fun W hR => (HUS.out W A5 c5).mono (by rintro e w' ⟨rfl, hB⟩; exact ⟨(), rfl, hR.1.below hB, hB⟩)) ?_
  rintro ⟨⟩
  refine AnyF.pure 4 (v := .tuple #[.agg U.toArray, .int .i64 2]) rfl (by decide) (fun g => by cases g <;> kernel_rfl) (fun _ _ _ h => h) rfl (by decide) (fun st _ => by cases st <;> kernel_rfl) (fun _ h => h.1) ?_
  refine AnyF.pure 5 (v := .agg U.toArray) rfl (by decide) (fun g => by cases g <;> kernel_rfl) (fun _ _ _ h => h) rfl (by decide) (fun st _ => by cases st <;> kernel_rfl) (fun _ h => h.1) ?_
  refine AnyF.pure 6 (v := .int .i64 2) rfl (by decide) (fun g => by cases g <;> kernel_rfl) (fun _ _ _ h => h) rfl (by decide) (fun st _ => by cases st <;> kernel_rfl) (fun _ h => h.1) ?_
  refine AnyF.fin rfl rfl rfl (fun _ _ => by kernel_rfl) (by kernel_rfl) (fun _ o h => h.alloc o) (fun _ h => h.2.2.2) (fun _ h => h.1) ?_
  intro gp w7 hgp hp7 hU7
  refine AnyK.storeAll 8 (t := 37) (x := .tmp 7) (y := .tmp 27) gp U 37 (u8s (List.replicate 768 0)) rfl rfl rfl rfl (by kernel_rfl) (by kernel_rfl) (by kernel_rfl) hp7 HI7.out H17.out HL7.out (fun _ _ _ h => (by cases h)) ?_
  intro w8 hb8 ho8
  refine AnyK.pure 9 (v := .int .i64 2) rfl (by kernel_rfl) (fun _ _ _ h => h) rfl (fun _ => by kernel_rfl) (fun h => (by cases h)) ?_
  refine AnyK.done (by kernel_rfl) ?_
  have hgw : w.heap.size ≤ gp := Nat.le_trans HE4.out.size hgp
  have HE8 : Hid (Below w.heap.size w w8) := ho8.below hU7.2.2.1 hgw hU7.2.2.1.size
  have HB8 := Lib.hid hb8
  clear hb8 ho8 hp7 hU7 HU0 HLD HB4 HE4 hgp
  go_wp2_with (go_at_call 12; (with_reducible refine (HRU.out _).mono ?_); rintro e w9 ⟨rfl, hB9⟩
               have HE9 := Lib.hid (HE8.out.trans (hB9.mono HE8.out.size))
               clear hB9)
  go_ret
  exact ⟨rfl, HE9.out⟩

theorem walk (A : Option Addr) (n c : Nat) (l : List UInt8) (B : Option Addr) (m d : Nat) (msg : List UInt8) (w : World) (h : Rd w A n (u8s l)) (hn : n ≤ c) (h2 : Rd w B m (u8s msg)) (hm : m ≤ 140737488351232) :
    Calls Try.prog 3 #[.slice A n c, .slice B m d] w fun e w' => e = .returned (.bool true) ∧ Below w.heap.size w w' := by
  by_cases hne : n = 328
  · subst hne
    by_cases h0 : beNat (l.take 8) = 0
    · exact walk_zero A B c m d l w h h0
    · by_cases h450 : m ≤ 450
      · exact walk_yes A B c m d l msg w h hn h0 h2 h450
      · exact walk_big A B c m d l msg w h hn h0 h2 (by omega) hm
  · exact walk_no A B n c m d w hne
end Go.Proofs.Ytgkhglnfbhdkeaa.surbUses
