/- Part of the proof: Kp. -/
import Derived.Test.YtloakenighnfgaaCvx47
set_option linter.unusedVariables false
namespace Go.Proofs.Ytloakenighnfgaa.Tr
open Go.RowKit
@[reducible] def srcF : ByteArray := { data := #[114, 101, 112, 101, 97, 116, 32, 105, 32, 51, 32, 123, 32, 119, 97, 105, 116, 32, 105, 32, 42, 32, 50, 59, 32, 125] }
def tsF : List Lx.Tok := (Lx.scan srcF.data.toList).2
def stIn : St := .mk k_wait 13 zR (.mk m_star 0 zs 18 [.mk k_name 0 sI 18 [], .mk k_number 2 zs 22 []]) zE zE [] zR zR [] []
def stOut : St := .mk k_repeat 0 ⟨sI, 7⟩ (.mk k_number 3 zs 9 []) zE zE [] zR zR [stIn] []
theorem scanF : Lx.scan srcF.data.toList = ((0, 0), tsF) := by kernel_rfl
theorem tsF_len : tsF.length = 11 := by kernel_rfl
theorem kind10 : (tokAt tsF 10).kind = 6 := by kernel_rfl
theorem seesF : sees tsF [k_let, k_route] s0 = false := by kernel_rfl
theorem topF : topLoop tsF (tsF.length + 2) [] s0 = ([stOut], ⟨10, 0, 0, 0, 0⟩) := by kernel_rfl
theorem endsF : Ends tsF := by
  intro i hk
  rw [tsF_len]
  rcases Nat.lt_or_ge i 10 with h | h
  · omega
  · rcases Nat.lt_or_ge i 11 with h1 | h1
    · obtain rfl : i = 10 := by omega
      exact absurd kind10 hk
    · refine absurd ?_ hk
      unfold tokAt
      rw [List.getElem?_eq_none (by rw [tsF_len]; omega)]
      rfl
theorem parseF (w : World) : Calls Try.prog 17 #[.string srcF] w fun e w' => ∃ A c, e = .returned (.tuple #[.agg #[.slice none 0 0, .slice A 1 c], .agg #[.int .i64 0, .int .i64 0]]) ∧ BodyIn (Fr w.heap.size) w' A [stOut] ∧ Below w.heap.size w w' := by
  have h := parse_body srcF tsF scanF (by rw [tsF_len]; omega) endsF (by rw [tsF_len]; omega) seesF (by rw [topF]; rfl) w
  rw [topF] at h
  exact h
theorem body_one {F : Nat → Prop} {w : World} {A : Option Addr} {s : St} (h : BodyIn F w A [s]) : ∃ b off p, A = some ⟨b, off, none⟩ ∧ b < w.heap.size ∧ w.rangeAt b off (stC s p) ∧ StIn F w s p := by
  cases h with
  | mk _ _ sl hl hr he hy hz =>
    obtain ⟨p, rfl⟩ : ∃ p, sl = [p] := List.length_eq_one_iff.1 hl
    obtain ⟨b, off, rfl, hb, hc⟩ := hr.1.2 (by simp)
    exact ⟨b, off, p, rfl, hb, fun j v hj => hc j v (by simpa [zipC] using hj), he 0 s p rfl rfl, hy 0 s p rfl rfl, hz 0 s p rfl rfl⟩
theorem args_two {F : Nat → Prop} {w : World} {A : Option Addr} {x y : Ex} (h : ArgsIn F w A [x, y]) : ∃ b off p q, A = some ⟨b, off, none⟩ ∧ b < w.heap.size ∧ w.rangeAt b off (exC x p ++ exC y q) := by
  cases h with
  | mk _ _ sl hl hr hi =>
    obtain ⟨p, q, rfl⟩ : ∃ p q, sl = [p, q] := by
      match sl, hl with
      | [p, q], _ => exact ⟨p, q, rfl⟩
    obtain ⟨b, off, rfl, hb, hc⟩ := hr.1.2 (by simp)
    exact ⟨b, off, p, q, rfl, hb, fun j v hj => hc j v (by simpa [zipC] using hj)⟩
theorem range_wr {W W' : World} {L : List Nat} {b off : Nat} {cs : List Value} (h : b < W.heap.size ∧ W.rangeAt b off cs) (hW : Wr L W W') (hn : b ∉ L) : b < W'.heap.size ∧ W'.rangeAt b off cs :=
  ⟨Nat.lt_of_lt_of_le h.1 hW.size, fun j v hj => (World.cell?_of_block (a := ⟨b, off + j, none⟩) (hW.block b h.1 hn)).trans (h.2 j v hj)⟩
theorem stW_one (b off cA : Nat) (p : StA) : ∀ v ∈ stW b off cA p, v.oneCell' = true := by
  intro v hv
  simp only [stW, List.mem_cons, List.not_mem_nil, or_false] at hv
  rcases hv with rfl | rfl | rfl | rfl | rfl | rfl | rfl | rfl | rfl | rfl | rfl | rfl | rfl | rfl | rfl | rfl | rfl | rfl | rfl | rfl | rfl | rfl | rfl | rfl | rfl | rfl <;> rfl
theorem stR_one (p : StA) : ∀ v ∈ stR p, v.oneCell' = true := by
  intro v hv
  simp only [stR, List.mem_cons, List.not_mem_nil, or_false] at hv
  rcases hv with rfl | rfl | rfl | rfl | rfl | rfl | rfl | rfl | rfl | rfl | rfl | rfl | rfl | rfl | rfl | rfl | rfl | rfl | rfl | rfl | rfl | rfl | rfl | rfl | rfl | rfl <;> rfl
theorem stmts_F {w : World} {cp mp : Nat} (h : CkS cp mp [] 1 1 1 1 0 w) (b off cA : Nat) (p : StA) (b2 off2 : Nat) (hy : p.y.1 = some ⟨b2, off2, none⟩) (b3 off3 c3 : Nat) (p2 : StA) (B1 : Option Addr) (c1 : Nat) (B2 : Option Addr) (c2 : Nat)
    (hA : b < w.heap.size ∧ w.rangeAt b off (stR p)) (hA2 : b2 < w.heap.size ∧ w.rangeAt b2 off2 (stW b3 off3 c3 p2)) (hA3 : b3 < w.heap.size ∧ w.rangeAt b3 off3 (arM B1 c1 B2 c2)) (hn : b ∉ [cp, mp]) (hn2 : b2 ∉ [cp, mp]) (hn3 : b3 ∉ [cp, mp]) :
    Calls Try.prog 22 #[.pointer (some ⟨cp, 0, none⟩), .slice (some ⟨b, off, none⟩) 1 cA, .agg (scC 1 0).toArray] w fun e w' => ∃ A c, e = .returned (.slice A 1 c) ∧ CkS cp mp [] 46 2 2 16 2 w' ∧ Wr [cp, mp] w w' := by
  refine stmts_one (stR p) rfl (stR_one p) b off cA 1 0 46 2 2 16 2 1 (.inl rfl) rfl hA.1 hA.2 (fun e => hn (by simp [e])) h fun W hW hC => ?_
  refine stmt_r p hC fun W2 hW2 hC2 => ?_
  have hW3 := (hW.mono (M := [cp, mp]) (by simp)).trans hW2
  rw [hy]
  have h2 := range_wr hA2 hW3 hn2
  refine stmts_one (stW b3 off3 c3 p2) rfl (stW_one _ _ _ _) b2 off2 p.y.2 3 1 46 2 2 16 2 2 (.inr rfl) rfl h2.1 h2.2 (fun e => hn2 (by simp [e])) hC2 fun W4 hW4 hC4 => ?_
  have h3 := range_wr hA3 (hW3.trans (hW4.mono (by simp))) hn3
  exact stmt_w b3 off3 c3 p2 B1 c1 B2 c2 hC4 h3.1 h3.2
set_option maxRecDepth 100000 in
set_option maxHeartbeats 1000000 in
theorem dcheck_nil (w : World) : Calls Try.prog 18 #[.slice none 0 0] w fun e w' => e = .returned (.int .i64 0) ∧ w = w' := by
  go_enter Try.func18, Try.ntmps18
  go_wp2
  go_loopg [11] 0 (fun kk q wr => q = .int .i64 0 ∧ w = wr)
  case atStart => exact ⟨rfl, rfl⟩
  case round =>
    obtain ⟨rfl, rfl⟩ := hrel
    go_wp2
    go_loopg [32] 0 (fun kk q wr => q = .int .i64 0 ∧ w = wr)
    case atStart => exact ⟨rfl, rfl⟩
    case round =>
      obtain ⟨rfl, rfl⟩ := hrel
      go_wp2
      go_ret
      exact ⟨rfl, rfl⟩
end Go.Proofs.Ytloakenighnfgaa.Tr
