/- Part of the proof: CheckValuesW. -/
import Derived.Test.YtloakenighnfgaaCvx39
import Derived.Test.YtloakenighnfgaaCvx40
import Derived.Test.YtloakenighnfgaaCvx42
import Derived.Test.YtloakenighnfgaaCvx49
set_option linter.unusedVariables false
namespace Go.Proofs.Ytloakenighnfgaa.Tr
open Go.RowKit
@[reducible] def nmA : List Value := [.int .i64 0, .int .i64 3, .slice none 0 0, .int .i64 1, .int .i64 0, .slice none 0 0]
def ndA (g : Nat) : Nd := .mk 2 0 (some ⟨g, 0, none⟩) 2 2 [.mk 0 3 none 0 0 [], .mk 1 0 none 0 0 []]
theorem ndA_in {W : World} {g : Nat} {t : TypeId} (h : Blk W g t nmA) : NdIn W (ndA g) := by
  refine .mk _ _ _ _ _ _ rfl ⟨rfl, fun _ => ⟨g, 0, rfl, h.lt, fun j u hu => ?_⟩⟩ (fun d hd => ?_)
  · rw [Nat.zero_add, h.cell]; exact hu
  · simp only [List.mem_cons, List.not_mem_nil, or_false] at hd
    rcases hd with rfl | rfl
    · exact .mk _ _ _ _ _ _ rfl ⟨rfl, fun h => absurd h (by omega)⟩ (fun d hd => by cases hd)
    · exact .mk _ _ _ _ _ _ rfl ⟨rfl, fun h => absurd h (by omega)⟩ (fun d hd => by cases hd)
theorem ndA_val (g : Nat) : Nd.value 1 11 [4] (ndA g) = (7, 0) := by kernel_rfl
theorem value_A (W : World) (g1 g2 : Nat) {t1 t2 : TypeId} (h1 : Blk W g1 t1 nmA) (h2 : Blk W g2 t2 [.int .i64 4]) : Calls Try.prog 6 #[.agg #[.int .i64 2, .int .i64 0, .slice (some ⟨g1, 0, none⟩) 2 2], .slice (some ⟨g2, 0, none⟩) 1 1] W fun e w' => e = .returned (.tuple #[.int .i64 7, .int .i64 0]) ∧ Below W.heap.size W w' := by
  have h := value_c [4] (some ⟨g2, 0, none⟩) 1 (ndA g1) W (ndA_in h1) ⟨rfl, fun _ => ⟨g2, 0, rfl, h2.lt, fun j u hu => by rw [Nat.zero_add, h2.cell]; exact hu⟩⟩
  rw [ndA_val] at h
  exact h
set_option maxRecDepth 100000 in
set_option maxHeartbeats 2000000 in
theorem awake_c (w : World) : Calls Try.prog 5 #[] w fun e w' => e = .returned (.bool true) ∧ Below w.heap.size w w' := by
  have HC := Lib.hid check_F
  have HV := Lib.hid (fun W g1 g2 (h1 : Blk W g1 24 nmA) (h2 : Blk W g2 3 [.int .i64 4]) => value_A W g1 g2 h1 h2)
  go_enter Try.func5, Try.ntmps5
  go_wp2_with (first
    | (go_at_call 10; (refine (HC.out _).mono ?_); rintro e w2 ⟨A2, c2, rfl, hB2⟩; have HB2 := Lib.hid hB2; clear hB2)
    | (go_at_call 6; (refine (HV.out _ _ _ (by exact (Blk.new' (by simp) rfl).alloc _) (by exact Blk.new' (by simp) rfl)).mono ?_); rintro e w3 ⟨rfl, hB3⟩
       have hT : Blk w3 w2.heap.size 40 (tyC 46 2 2 A2 1 c2) := Blk.below ((((Blk.new w2 _ _).alloc _).alloc _).alloc _) hB3 (by simp <;> omega)
       have hF : Blk w3 (w2.heap.size + 1) 42 [.int .i64 0, .int .i64 0] := Blk.below (((Blk.new' (by simp) rfl).alloc _).alloc _) hB3 (by simp <;> omega)
       have HB3 : Hid (Below w.heap.size w w3) := ((((HB2.out.alloc HB2.out.size _).alloc (by have := HB2.out.size; simp <;> omega) _).alloc (by have := HB2.out.size; simp <;> omega) _).alloc (by have := HB2.out.size; simp <;> omega) _).trans (hB3.mono (by have := HB2.out.size; simp <;> omega))
       have t2 : w3.cell? ⟨w2.heap.size, 2, none⟩ = some (.int .i64 46) := hT.cell 2
       have t3 : w3.cell? ⟨w2.heap.size, 3, none⟩ = some (.int .i64 2) := hT.cell 3
       have t8 : w3.cell? ⟨w2.heap.size, 8, none⟩ = some (.int .i64 2) := hT.cell 8
       have t6 : w3.cell? ⟨w2.heap.size, 6, none⟩ = some (.slice A2 1 c2) := hT.cell 6
       have f0 : w3.cell? ⟨w2.heap.size + 1, 0, none⟩ = some (.int .i64 0) := hF.cell 0
       have f1 : w3.cell? ⟨w2.heap.size + 1, 1, none⟩ = some (.int .i64 0) := hF.cell 1
       clear hT hF hB3))
  go_ret
  exact ⟨rfl, HB3.out⟩
theorem bs0 (w : World) : (Instr.buildSlice 25 0 #[]).run Try.prog w = .ok (.slice (some ⟨w.heap.size, 0, none⟩) 0 0) (w.alloc (.cells #[] 3)) := by kernel_rfl
theorem ex_bs0 {o : Oper} {a : Act} {w : World} (ho : o.op = .buildSlice 25 0 #[]) : (execOp a.eval o).run Try.prog w = .ok (.value (.slice (some ⟨w.heap.size, 0, none⟩) 0 0)) (w.alloc (.cells #[] 3)) := by
  unfold execOp
  simp only [ho, List.map_toArray, List.map_nil, Sem.run_bind, bs0, Sem.run_pure, Result.andThen_ok]
theorem eInt : ElemIs Try.prog 3 1 8 := ElemIs.of (z := .int .i64 0) (by kernel_rfl) rfl (by omega)
theorem intsV_one (vs : List Int) : ∀ v ∈ intsV vs, v.oneCell' = true := by
  intro v hv
  simp only [intsV, List.mem_map] at hv
  obtain ⟨x, _, rfl⟩ := hv
  rfl
set_option maxRecDepth 100000 in
set_option maxHeartbeats 2000000 in
theorem walk_c (d : Nd) (V : Option Addr) (m vc : Nat) (vs : List Int) (hm : vs.length = m) (w : World) (h : NdIn w d) (hv : Rd w V m (intsV vs)) (hvc : m ≤ vc) (hsz : vc * 8 ≤ 140737488355328) : Calls Try.prog 3 #[.agg (ndC d).toArray, .slice V m vc] w fun e w' => e = .returned (.bool true) ∧ Below w.heap.size w w' := by
  have HA := Lib.hid awake_c
  have HV := Lib.hid (fun W V' vc' (hW : Below w.heap.size w W) (hr : Rd W V' m (intsV vs)) => hm ▸ value_c vs V' vc' d W (h.belo hW) (hm ▸ hr))
  have HR := Lib.hid (fun W (hW : Below w.heap.size w W) => rvalue_c vs V vc m hm d W (h.belo hW) (hv.below hW))
  have HS := Lib.hid (fun W (hW : Below w.heap.size w W) => size_c d W (h.belo hW))
  have HT := Lib.hid (fun W (hW : Below w.heap.size w W) => rsize_c d W (h.belo hW))
  have HVB := Lib.hid hv
  rw [← Nd.value_same 1 11 (by decide) (by decide) (by decide) vs d] at HR
  have HL : Hid (∀ W, Below (w.heap.size + 1) (w.alloc (.cells (ndC d).toArray 24)) W → Blk W w.heap.size 24 (ndC d)) := fun W hW => (Blk.new w _ _).below hW (by simp)
  clear h hv
  obtain ⟨op, k, A, n, c, kids⟩ := d
  unfold ndC at *
  generalize Nd.value 1 11 vs (.mk op k A n c kids) = RV at *
  rw [Nd.size_same wrap64 (fun a b => by unfold wrap64; omega)] at HS
  generalize Nd.rsize wrap64 (.mk op k A n c kids) = RS at *
  go_enter Try.func3, Try.ntmps3
  go_upto_region 3 with (go_at_call 5; (refine (HA.out _).mono ?_); rintro e w2 ⟨rfl, hB2⟩
                         have HB2 : Hid (Below w.heap.size w w2) := ((Below.refl _ _).alloc (Nat.le_refl _) _).trans (hB2.mono (by simp))
                         have HN2 : Hid (Blk w2 w.heap.size 24 [.int .i64 op, .int .i64 k, .slice A n c]) := HL.out _ (by simpa using hB2)
                         clear hB2)
  have HD : Hid (Blk w2.drew w.heap.size 24 [.int .i64 op, .int .i64 k, .slice A n c]) := HN2.out.drew
  have HBd : Hid (Below w.heap.size w w2.drew) := HB2.out.drew
  have hs2 := HBd.out.size
  have HV0 := Lib.hid (HVB.out.below (HBd.out.alloc hs2 (.cells #[] 3)))
  refine region_K (by kernel_rfl) 9 (fun W' => Blk W' w.heap.size 24 [.int .i64 op, .int .i64 k, .slice A n c]) ?_
  refine AnyK.load 0 (v := .agg #[.int .i64 op, .int .i64 k, .slice A n c]) rfl (by kernel_rfl) (by kernel_rfl) (by kernel_rfl) (fun _ _ _ h => h) rfl (fun w' hw' => ex_loadS (t := 24) (x := .tmp 2) (by rfl) (by kernel_rfl) (ldAt_run hw' 24 0 [.int .i64 op, .int .i64 k, .slice A n c] rfl _ Try.underlying24 rfl hdNm)) HD.out ?_
  refine AnyK.pure 2 (v := .slice V m vc) rfl (by kernel_rfl) (fun _ _ _ h => h) rfl (fun _ => by kernel_rfl) (fun _ => HD.out) ?_
  refine AnyK.main 1 (by rfl) (by kernel_rfl) rfl (fun K hK => wp_val (ex_bs0 rfl) (hK _ _ ⟨fun _ => HD.out.alloc _, ?_⟩))
  have hn2 := HD.out.lt
  have hn3 : w.heap.size < w2.heap.size := hn2
  have hw9 : Hid (∀ W, Below (w.heap.size + 1) (w2.drew.alloc (.cells #[] 3)) W → Blk W w.heap.size 24 [.int .i64 op, .int .i64 k, .slice A n c] ∧ Below w.heap.size w W) := fun W hW => ⟨(HD.out.alloc _).below hW (by omega), (HBd.out.alloc hs2 _).trans (hW.mono (by omega))⟩
  refine AnyK.main 3 (by rfl) (by kernel_rfl) rfl (fun K hK => wp_app (.tmp 17) (.tmp 18) 25 (by rfl) (w.heap.size + 1) 3 1 8 Try.underlying25 eInt (.slice (some ⟨w2.drew.heap.size, 0, none⟩) 0 0) 0 [] (by kernel_rfl) (own_of_blk (cs := []) (Blk.new w2.drew 3 []) (by omega) 0 0 1 (by omega) rfl (by omega)) V m vc (intsV vs) (by kernel_rfl) HV0.out.toS (intsV_one vs) (by omega) (by omega) (by simp; omega) (fun A7 c7 w7 hown7 hc7 hg7 hat7 => hK _ _ ⟨fun _ => (hw9.out w7 ((Below.refl _ _).grown hg7 (by simp; omega) (fun k hk => by injection hk with hk; show _ ≤ k; rw [← hk]; exact hn2))).1, ?_⟩))
  have HW7 := Lib.hid (hw9.out w7 ((Below.refl _ _).grown hg7 (by simp; omega) (fun k hk => by injection hk with hk; show _ ≤ k; rw [← hk]; exact hn2)))
  have HR7 : Hid (Rd w7 A7 m (intsV vs)) := (by rw [Nat.zero_add] at hown7; exact Rd.of_own hown7)
  clear hown7 hc7 hg7 hat7
  rw [Nat.zero_add]
  refine AnyK.enter 4 (d := some 20) (f := 6) (args := #[.agg #[.int .i64 op, .int .i64 k, .slice A n c], .slice A7 m c7]) (by rfl) (by kernel_rfl) (by kernel_rfl) ?_
  refine (HV.out _ _ _ HW7.out.2 HR7.out).mono ?_
  rintro e w8 ⟨rfl, hB8⟩
  have HN8 : Hid (Blk w8 w.heap.size 24 [.int .i64 op, .int .i64 k, .slice A n c]) := HW7.out.1.below hB8 HW7.out.1.lt
  have HB8 : Hid (Below w.heap.size w w8) := HW7.out.2.trans (hB8.mono HW7.out.2.size)
  clear hB8
  refine ⟨_, rfl, fun _ => HN8.out, ?_⟩
  refine AnyK.pure 5 (v := .tuple #[.int .i64 RV.1, .int .i64 (RV.2 : Int)]) rfl (by kernel_rfl) (fun _ _ _ h => h) rfl (fun _ => by kernel_rfl) (fun _ => HN8.out) ?_
  refine AnyK.pure 6 (v := .int .i64 RV.1) rfl (by kernel_rfl) (fun _ _ _ h => h) rfl (fun _ => by kernel_rfl) (fun _ => HN8.out) ?_
  refine AnyK.pure 7 (v := .int .i64 (RV.2 : Int)) rfl (by kernel_rfl) (fun _ _ _ h => h) rfl (fun _ => by kernel_rfl) (fun _ => HN8.out) ?_
  refine AnyK.val 8 (v := .int .i64 RV.1) (by rfl) (by kernel_rfl) rfl (by kernel_rfl) (fun _ => HN8.out) ?_
  refine AnyK.val 9 (v := .int .i64 (RV.2 : Int)) (by rfl) (by kernel_rfl) rfl (by kernel_rfl) (fun _ => HN8.out) ?_
  refine AnyK.done (by kernel_rfl) ?_
  have n0 : w8.cell? ⟨w.heap.size, 0, none⟩ = some (.int .i64 op) := HN8.out.cell 0
  have n1 : w8.cell? ⟨w.heap.size, 1, none⟩ = some (.int .i64 k) := HN8.out.cell 1
  have n2 : w8.cell? ⟨w.heap.size, 2, none⟩ = some (.slice A n c) := HN8.out.cell 2
  clear HV HW7 HR7 hw9 HV0 HD HBd HB2 HN2 hs2 hn2 hn3 HVB HA HL
  go_wp2_with (first
    | (go_at_call 7; (refine (HR.out _ (by exact HB8.out)).mono ?_); rintro e w9 ⟨rfl, hB9⟩
       have HN9 : Hid (Blk w9 w.heap.size 24 [.int .i64 op, .int .i64 k, .slice A n c]) := HN8.out.below hB9 HN8.out.lt
       have HB9 : Hid (Below w.heap.size w w9) := HB8.out.trans (hB9.mono HB8.out.size)
       have n0 : w9.cell? ⟨w.heap.size, 0, none⟩ = some (.int .i64 op) := HN9.out.cell 0
       have n1 : w9.cell? ⟨w.heap.size, 1, none⟩ = some (.int .i64 k) := HN9.out.cell 1
       have n2 : w9.cell? ⟨w.heap.size, 2, none⟩ = some (.slice A n c) := HN9.out.cell 2
       clear hB9)
    | (go_at_call 8; (refine (HS.out _ (by exact HB9.out)).mono ?_); rintro e w10 ⟨rfl, hB10⟩
       have HN10 : Hid (Blk w10 w.heap.size 24 [.int .i64 op, .int .i64 k, .slice A n c]) := HN9.out.below hB10 HN9.out.lt
       have HB10 : Hid (Below w.heap.size w w10) := HB9.out.trans (hB10.mono HB9.out.size)
       have n0 : w10.cell? ⟨w.heap.size, 0, none⟩ = some (.int .i64 op) := HN10.out.cell 0
       have n1 : w10.cell? ⟨w.heap.size, 1, none⟩ = some (.int .i64 k) := HN10.out.cell 1
       have n2 : w10.cell? ⟨w.heap.size, 2, none⟩ = some (.slice A n c) := HN10.out.cell 2
       clear hB10)
    | (go_at_call 9; (refine (HT.out _ (by exact HB10.out)).mono ?_); rintro e w11 ⟨rfl, hB11⟩
       have HB11 : Hid (Below w.heap.size w w11) := HB10.out.trans (hB11.mono HB10.out.size)
       clear hB11))
  go_ret
  exact ⟨by simp, HB11.out⟩
end Go.Proofs.Ytloakenighnfgaa.Tr
