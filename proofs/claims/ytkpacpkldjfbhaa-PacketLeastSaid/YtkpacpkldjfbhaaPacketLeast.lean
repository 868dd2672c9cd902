/- PacketLeast: of several errors the one with the least number is told: for every list of numbers the law returns true. -/
import Derived.Test.YtkpacpkldjfbhaaAwake14
import Derived.Test.YtkpacpkldjfbhaaOpen
namespace Go.Proofs.Ytkpacpkldjfbhaa.packetLeast
open Go.ChangeShapes Go.WideShapes Go.ChangeAt Go.RowKit
open Go.ChangeMaps (open_string shut_string)
set_option linter.unusedVariables false

theorem iErr : (Try.prog.info? 25).map (fun i => (i.zero, i.size, i.bytes)) = some (some (.int .i64 0), 1, 8) := by kernel_rfl
theorem eErr : ElemIs Try.prog 25 1 8 := ElemIs.of iErr rfl (by omega)
theorem bytes3 : Try.prog.bytesOf 3 = 8 := by kernel_rfl

theorem i64s_snoc (l : List Int) (k : Nat) (x : Int) (h : l[k]? = some x) : i64s (l.take (k + 1)) = i64s (l.take k) ++ [.int .i64 x] := by
  rw [List.take_add_one, h]; simp [i64s, i64]

set_option maxHeartbeats 800000 in
theorem walk (A : Option Addr) (n c : Nat) (l : List Int) (w : World) (h : Rd w A n (i64s l)) (hn : n * 8 ≤ 140737488351232) :
    Calls Try.prog 3 #[.slice A n c] w fun e w' => e = .returned (.bool true) ∧ Below w.heap.size w w' := by
  have hl : l.length = n := by rw [← i64s_length]; exact h.1
  have HL := Lib.hid hl
  clear hl
  go_enter Try.func3, Try.ntmps3
  go_wp2_with (go_at_call 10; refine (awake14 _).mono ?_; rintro e w1 ⟨rfl, hB1⟩)
  go_loopw [3, 10] (fun v i wr => ∃ k : Nat, k ≤ n ∧ i = .int .i64 k ∧ ∃ A' c', v = .slice A' k c' ∧ k ≤ c' ∧ wr.ownsRow w.heap.size 25 1 (.slice A' k c') k (i64s (l.take k)) ∧ Below w.heap.size w wr) (fun _ i _ => n - (intOf i).toNat)
  case atStart => exact ⟨0, Nat.zero_le _, rfl, _, _, rfl, Nat.zero_le _, World.ownsRow_nil _ _ _ _, hB1⟩
  case round =>
    clear hB1
    obtain ⟨k, hk, rfl, A', c', rfl, hc', hown, hBr⟩ := hrel
    by_cases hlt : k < n
    · obtain ⟨b, off, x, rfl, hb, HX, hc⟩ := (h.below hBr).i64 hlt
      have hs := i64s_snoc l k x HX.out
      have HS := Lib.hid hs
      clear hs
      generalize i64s (l.take k) = F at *
      go_wp2_with (at_builtin; refine wpList_app rfl (.tmp 14) (.tmp 16) _ rfl w.heap.size 25 1 8 Try.underlying24 eErr (.slice A' k c') k F (by rfl) (hown.alloc _) (some ⟨wr.heap.size, 0, none⟩) 1 1 [.int .i64 x] (by rfl) (RdS.new _ _ [.int .i64 x] 1 rfl) (by simp [Value.oneCell']) (by omega) (by omega) (Nat.le_trans hBr.size (by simp)) ?_)
      intro A2 c2 w2 hown2 hc2 hg2 hat2
      have hB2 : Below w.heap.size w w2 := (hBr.alloc hBr.size _).grown hg2 (Nat.le_trans hBr.size (by simp)) (fun g hg => (hown.lt g hg).1)
      rw [← HS.out] at hown2
      clear hg2 hat2 hown
      go_wp2
      go_roundw
      case rel => exact ⟨k + 1, by omega, by go_num, A2, c2, rfl, hc2, hown2, hB2⟩
      case measure => simp [intOf]; omega
    · have : k = n := by omega
      subst this
      rw [List.take_of_length_le (by rw [HL.out]; omega)] at hown
      go_wp2_with (first
        | (go_at_call 11; refine (least_any A' k c' l _ (Rd.of_own hown) (by omega)).mono ?_; rintro e w6 ⟨rfl, rfl⟩)
        | (go_at_call 12; refine (rleast_any A k c l _ (h.below hBr) (by omega)).mono ?_; rintro e w6 ⟨rfl, rfl⟩))
      go_ret
      exact ⟨by simp, hBr⟩

set_option maxRecDepth 100000 in
theorem lifted (os : Os) (started : os.Started) (H : Type) (enc : TypeId × Value → H) :
    ReturnsInHanded {} Try.checked os 3 .any (Rows.packetLeastSpec.pre6 enc Try.prog Try.f3 Rows.packetLeastRow.domain false) (Rows.packetLeastSpec.post enc Try.prog Try.f3 false true false false) := by
  refine returnsInHanded_of_change_sized (C := Try.checked) own started (by kernel_rfl) Try.func3
    (ChangeSpec.witness6 (enc := enc) (C := Try.checked) false ⟨#[], #[.slice none 0 0], []⟩ 8 (by kernel_rfl) (by kernel_rfl) (by kernel_rfl) (by kernel_rfl)) ?_
  intro W base args ds gs before hval0 hW hcnd hsz0 _
  have hval : ∀ (j : Nat) t v, Try.f3.params[j]? = some t → args[j]? = some v → Value.okWide Try.prog W .any base t v := hval0
  have hsz : (DataW.weightsEach Try.prog (Try.f3.params.toList ++ Rows.packetLeastSpec.plain.varTypes Try.prog) (ds ++ gs)).all (· ≤ reachBytes) = true := hsz0
  have hW' := hW
  obtain ⟨p, q, hA0, hV, rfl, hfz, hnd⟩ := hW
  have hA : DataW.TrodAll enc Try.prog W 0 (fun _ => true) true Try.f3.params.toList args.toList ds p := hA0
  rw [Try.params3] at hA hval hsz
  obtain ⟨v0, vs0, d0, ds0, p0, q0, hargs, rfl, rfl, h0, r0⟩ := trodAll_cons hA
  obtain ⟨rfl, rfl, rfl⟩ := trodAll_nil r0
  obtain rfl : args = #[v0] := by cases args; simp_all
  obtain ⟨rfl, rfl⟩ := trodVars_none hV
  obtain ⟨a0, len0, cap0, rfl⟩ := okWide_slice Try.underlying22 (hval 0 22 v0 rfl rfl)
  have k0 := h0
  have lt0 : ∀ x ∈ p0, x.block < W.heap.size := by obtain ⟨m, hm⟩ := k0; exact DataW.trod_lt m _ _ _ hm
  obtain ⟨l, hr, hlc, hcn, _⟩ := open_intsOf Try.underlying22 Try.underlying3 (by kernel_rfl) h0 8 140737488351232 (fun elems spare hd => by
    subst hd
    have := sized_slice hsz (j := 0) (t := 22) (e := 3) rfl rfl Try.underlying22
    rw [bytes3] at this
    exact this)
  clear hA0 hval0
  refine (walk a0 len0 cap0 l W hr (by omega)).mono fun e W' ⟨he, bel⟩ => ?_
  subst he
  exact ⟨_, rfl, _, _, _, [], _, [], hW', trodAll_mk1 (shut_bool Try.underlying4 _), (trodAll_cons_mk (Below.trod laidOut (by kernel_rfl) (of_decide_eq_true (by kernel_rfl)) k0 bel lt0) trodAll_mk0), rfl, bel.frame _, fun h => by cases h⟩

theorem over : Rows.packetLeastRow.holds Try.pinned (OpenSpec.ofChange Rows.packetLeastSpec) :=
  OpenClaim.holds_of_wide 3 Try.f3 rfl rfl rfl rfl rfl rfl rfl ⟨rfl, rfl, rfl, rfl, rfl⟩ rfl rfl rfl rfl rfl (by kernel_rfl) Try.func3 (by kernel_rfl)
    (of_decide_eq_true (by kernel_rfl)) (by unfold Func.isWrapper; first | (rw [if_pos (by decide +kernel)]; kernel_rfl) | (rw [if_neg (by decide +kernel)]; exact ⟨rfl, rfl⟩))
    (fun os started H enc _ => lifted os started H enc)

theorem proved : Rows.PacketLeastSaid := over
end Go.Proofs.Ytkpacpkldjfbhaa.packetLeast
