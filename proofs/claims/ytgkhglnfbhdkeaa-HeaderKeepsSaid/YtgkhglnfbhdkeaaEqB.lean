/- Two arrays of bytes, compared. -/
import Derived.Test.YtgkhglnfbhdkeaaRg
import Derived.ChangeKeysEq
namespace Go.Proofs.Ytgkhglnfbhdkeaa
open Go.RowKit

section
variable {P : Program}
theorem eqItems_bytes (d : Nat) (e : TypeId) (he : P.plainKey e = true) (hu : P.underlying e = some (.int .u8)) (a b : List UInt8) (hl : a.length = b.length) (w : World) :
    ∀ (k i : Nat), i + k = a.length → (Op.eqItems (d + 1) e 1 (u8s a).toArray (u8s b).toArray (List.range' i k)).run P w = .ok (decide (a.drop i = b.drop i)) w := by
  intro k
  induction k with
  | zero =>
    intro i hi
    rw [List.drop_eq_nil_of_le (by omega), List.drop_eq_nil_of_le (by omega)]
    simp [Op.eqItems]
  | succ k ih =>
    intro i hi
    have hia : i < a.length := by omega
    have hib : i < b.length := by omega
    have ha : (u8s a).toArray[i * 1]? = some (.int .u8 (a[i].toNat : Int)) := by
      rw [Nat.mul_one, List.getElem?_toArray, u8s_getElem?, List.getElem?_eq_getElem hia]
      rfl
    have hb : (u8s b).toArray[i * 1]? = some (.int .u8 (b[i].toNat : Int)) := by
      rw [Nat.mul_one, List.getElem?_toArray, u8s_getElem?, List.getElem?_eq_getElem hib]
      rfl
    have e1 : a.drop i = a[i] :: a.drop (i + 1) := List.drop_eq_getElem_cons hia
    have e2 : b.drop i = b[i] :: b.drop (i + 1) := List.drop_eq_getElem_cons hib
    rw [e1, e2, List.range'_succ]
    simp only [Op.eqItems, Sem.run_bind, run_part_plain w he ha, run_part_plain w he hb, Result.andThen_ok, run_equalIn_int w d e .u8 .u8 _ _ hu]
    by_cases hx : a[i] = b[i]
    · rw [hx]
      simp only [beq_self_eq_true, Bool.not_true, Bool.false_eq_true, if_false]
      rw [ih (i + 1) (by omega)]
      have h2 : (a.drop (i + 1) = b.drop (i + 1)) ↔ (b[i] :: a.drop (i + 1) = b[i] :: b.drop (i + 1)) := by simp only [List.cons.injEq, true_and]
      exact congrArg (fun x => Result.ok x w) (decide_eq_decide.2 h2)
    · have : (((a[i].toNat : Int)) == ((b[i].toNat : Int))) = false := by
        rw [beq_eq_false_iff_ne]
        intro h
        exact hx (UInt8.toNat_inj.1 (by omega))
      rw [this, decide_eq_false (fun h => hx (List.cons.inj h).1)]
      simp
theorem eq_bytes {t e : TypeId} {n : Nat} {i : TypeInfo} (hu : P.underlying t = some (.array n e)) (hi : P.info? e = some i) (hc : P.cellsOf e = 1) (he : P.plainKey e = true) (hue : P.underlying e = some (.int .u8)) (a b : List UInt8) (ha : a.length = n) (hb : b.length = n) (w : World) :
    (eqAt t (.agg (u8s a).toArray) (.agg (u8s b).toArray)).run P w = .ok (.bool (decide (a = b))) w := by
  unfold eqAt
  rw [run_eql_struct, run_equalIn_array w 9999 _ _ hu hi, hc, List.range_eq_range', ← ha, eqItems_bytes 9998 e he hue a b (by omega) w a.length 0 (by omega)]
  simp
end
theorem eq16 (a b : List UInt8) (ha : a.length = 16) (hb : b.length = 16) (w : World) : (eqAt 25 (.agg (u8s a).toArray) (.agg (u8s b).toArray)).run Try.prog w = .ok (.bool (decide (a = b))) w := by
  obtain ⟨i, hi⟩ : ∃ i, Try.prog.info? 5 = some i := by
    have h : (Try.prog.info? 5).isSome = true := by kernel_rfl
    exact Option.isSome_iff_exists.1 h
  exact eq_bytes Try.underlying25 hi (by kernel_rfl) (by kernel_rfl) Try.underlying5 a b ha hb w
end Go.Proofs.Ytgkhglnfbhdkeaa
