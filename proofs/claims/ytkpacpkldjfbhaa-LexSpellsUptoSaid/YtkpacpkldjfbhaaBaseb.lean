/- More words: loads and stores of long values. -/
import Derived.Test.YtkpacpkldjfbhaaBase
namespace Go.Proofs.Ytkpacpkldjfbhaa
open Go.RowKit

/-! ### loads and stores of long values, sealed: the walk does not open them; a hypothesis (a rule over a world) says what they do -/
def ldAt (ty : TypeId) (v : Value) : Sem Value := Instr.loadAt ty v
def stAt (ty : TypeId) (p v : Value) : Sem Unit := Instr.storeAt ty p v
def eqAt (ty : TypeId) (x y : Value) : Sem Value := binOp .eql ty x y
def neAt (ty : TypeId) (x y : Value) : Sem Value := binOp .neq ty x y
theorem ldAt_run {P : Program} {w : World} {g : Nat} {t : TypeId} {cs : List Value} (hB : Blk w g t cs) (ty : TypeId) (o : Nat) (ds : List Value) (hd : (cs.drop o).take ds.length = ds) (d : TypeDesc) (hu : P.underlying ty = some d) (hr : d.isRow = true) (hi : (P.info? ty).map (·.size) = some ds.length) :
    (ldAt ty (.pointer (some ⟨g, o, none⟩))).run P w = .ok (.agg ds.toArray) w :=
  run_loadAt_mid w g o ty ds d (hB.mid o ds fun j v hv => by
    rw [← hd, List.getElem?_take] at hv
    split at hv
    · simpa using hv
    · cases hv) hu hr hi
theorem stAt_run {P : Program} {w : World} {g : Nat} {t : TypeId} {cs : List Value} (hB : Blk w g t cs) (ty : TypeId) (o : Nat) (ds : List Value) (hfit : o + ds.length ≤ cs.length) (h1 : ∀ v ∈ ds, v.oneCell' = true) (hi : (P.info? ty).map (·.size) = some ds.length) :
    (stAt ty (.pointer (some ⟨g, o, none⟩)) (.agg ds.toArray)).run P w = .ok () (w.setCells g o ds) := by
  have h := run_storeAt_mid (P := P) w g o ty ds.toArray (by simpa using hB.there o ds.length hfit) (by simpa using hi) (all_oneCell_toArray h1)
  exact h

theorem Blk.set_ {w : World} {g : Nat} {t : TypeId} {cs : List Value} (h : Blk w g t cs) (i : Nat) (u : Value) : Blk (w.setCell ⟨g, i, none⟩ u) g t (cs.set i u) := by
  unfold Blk at h ⊢
  simp [World.setCell, Array.getElem?_modify, h]

theorem u8s_set (l : List UInt8) (i : Nat) (c : UInt8) : (u8s l).set i (.int .u8 c.toNat) = u8s (l.set i c) := by unfold u8s; rw [List.map_set]; rfl
theorem set_pad {α : Type} (l : List α) (z x : α) (k n : Nat) (hk : k < n) (hx : l[k]? = some x) : (l.take k ++ rep (n - k) z).set k x = l.take (k + 1) ++ rep (n - (k + 1)) z := by
  have hl : k < l.length := (List.getElem?_eq_some_iff.1 hx).1
  have h1 : (l.take k).length = k := by simp; omega
  have e : rep (n - k) z = z :: rep (n - (k + 1)) z := by
    unfold rep
    rw [show n - k = (n - (k + 1)) + 1 from by omega, List.replicate_succ]
  rw [e, List.set_append_right _ _ (by omega), h1, Nat.sub_self, List.set_cons_zero, List.take_add_one, hx]
  simp

end Go.Proofs.Ytkpacpkldjfbhaa
