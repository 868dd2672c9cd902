/- A step equals itself. -/
import Derived.Test.YtgkhglnfbhdkeaaApa
import Derived.Test.YtgkhglnfbhdkeaaEqB
namespace Go.Proofs.Ytgkhglnfbhdkeaa
open Go.RowKit

section
variable {P : Program}
theorem part_row {e : TypeId} {sz : Nat} (ha : ∀ w, (isAgg e).run P w = .ok true w) (hs : ∀ w, (sizeOf e).run P w = .ok sz w) (l : List UInt8) (off : Nat) (w : World) : (part e (u8s l).toArray off).run P w = .ok (.agg (u8s ((l.drop off).take sz)).toArray) w := by
  unfold part
  simp only [Sem.run_bind, ha, hs, Result.andThen_ok, if_true, Sem.run_pure]
  congr 2
  rw [List.extract_toArray, List.extract_eq_take_drop, Nat.add_sub_cancel_left, u8s_drop, u8s_take]
theorem eqFields_same (d : Nat) (xs : Array Value) (w : World) : ∀ fs : List Field, (∀ f ∈ fs, ∃ v, (part f.type xs f.offset).run P w = .ok v w ∧ (Op.equalIn d f.type v v).run P w = .ok true w) → (Op.eqFields d xs xs fs).run P w = .ok true w
  | [], _ => by simp [Op.eqFields]
  | f :: fs, h => by
    obtain ⟨v, h1, h2⟩ := h f (by simp)
    have ih := eqFields_same d xs w fs (fun g hg => h g (by simp [hg]))
    unfold Op.eqFields
    split
    · simp only [Sem.run_bind, h1, h2, Result.andThen_ok, Bool.not_true, Bool.false_eq_true, if_false, ih]
    · exact ih
end
theorem eqIn32 (d : Nat) (x : List UInt8) (hx : x.length = 32) (w : World) : (Op.equalIn (d + 2) 24 (.agg (u8s x).toArray) (.agg (u8s x).toArray)).run Try.prog w = .ok true w := by
  obtain ⟨i, hi⟩ : ∃ i, Try.prog.info? 5 = some i := Option.isSome_iff_exists.1 (by kernel_rfl)
  have hc : Try.prog.cellsOf 5 = 1 := by kernel_rfl
  rw [run_equalIn_array w (d + 1) _ _ Try.underlying24 hi, hc, List.range_eq_range', ← hx, eqItems_bytes d 5 (by kernel_rfl) Try.underlying5 x x rfl w x.length 0 (by omega)]
  simp
theorem ag24 (w : World) : (isAgg 24).run Try.prog w = .ok true w := by kernel_rfl
theorem sz24 (w : World) : (sizeOf 24).run Try.prog w = .ok 32 w := by kernel_rfl
theorem ag67 (w : World) : (isAgg 67).run Try.prog w = .ok true w := by kernel_rfl
theorem sz67 (w : World) : (sizeOf 67).run Try.prog w = .ok 128 w := by kernel_rfl
theorem fo67 : (Try.prog.fieldsOf 67) = (Try.prog.fieldsOf 67) := rfl
theorem cut32 {x : List UInt8} {o : Nat} (h : o + 32 ≤ x.length) : ((x.drop o).take 32).length = 32 := by rw [List.length_take, List.length_drop]; omega
set_option maxRecDepth 100000 in
theorem eqIn67 (d : Nat) (x : List UInt8) (hx : x.length = 128) (w : World) : (Op.equalIn (d + 3) 67 (.agg (u8s x).toArray) (.agg (u8s x).toArray)).run Try.prog w = .ok true w := by
  have hf : Try.prog.underlying 67 = some (.struct (Try.prog.fieldsOf 67)) := by kernel_rfl
  rw [run_equalIn_struct w (d + 2) _ _ _ hf (by kernel_rfl)]
  refine eqFields_same (d + 2) _ w _ fun f hf => ?_
  unfold Program.fieldsOf at hf
  rw [Try.underlying67] at hf
  simp only [List.mem_cons, List.not_mem_nil, or_false] at hf
  rcases hf with rfl | rfl | rfl | rfl <;> exact ⟨_, part_row ag24 sz24 x _ w, eqIn32 d _ (cut32 (by rw [hx]; decide)) w⟩
set_option maxRecDepth 100000 in
theorem eqIn69 (d : Nat) (x : List UInt8) (hx : x.length = 192) (w : World) : (Op.equalIn (d + 4) 69 (.agg (u8s x).toArray) (.agg (u8s x).toArray)).run Try.prog w = .ok true w := by
  have hf : Try.prog.underlying 69 = some (.struct (Try.prog.fieldsOf 69)) := by kernel_rfl
  rw [run_equalIn_struct w (d + 3) _ _ _ hf (by kernel_rfl)]
  refine eqFields_same (d + 3) _ w _ fun f hf => ?_
  unfold Program.fieldsOf at hf
  rw [Try.underlying69] at hf
  simp only [List.mem_cons, List.not_mem_nil, or_false] at hf
  rcases hf with rfl | rfl | rfl
  · exact ⟨_, part_row ag67 sz67 x _ w, eqIn67 d _ (by rw [List.length_take, List.length_drop, hx]; rfl) w⟩
  · exact ⟨_, part_row ag24 sz24 x _ w, eqIn32 (d + 1) _ (cut32 (by rw [hx]; decide)) w⟩
  · exact ⟨_, part_row ag24 sz24 x _ w, eqIn32 (d + 1) _ (cut32 (by rw [hx]; decide)) w⟩
set_option maxRecDepth 100000 in
theorem ne69 (s : Sp) (h : s.ok) (w : World) : (neAt 69 (.agg s.cells.toArray) (.agg s.cells.toArray)).run Try.prog w = .ok (.bool false) w := by
  unfold neAt
  rw [run_neq_struct]
  have h5 := eqIn69 9996 s.bytes (Sp.bytes_len h) w
  show (((Op.equalIn (9996 + 4) 69 (.agg (u8s s.bytes).toArray) (.agg (u8s s.bytes).toArray)).run Try.prog w).andThen _) = _
  rw [h5]
  rfl
theorem neq_69 (x y : Value) : binOp .neq 69 x y = neAt 69 x y := rfl
end Go.Proofs.Ytgkhglnfbhdkeaa
