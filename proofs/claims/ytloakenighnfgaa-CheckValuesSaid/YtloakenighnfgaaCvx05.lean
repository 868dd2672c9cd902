/- Part of the proof: Nmd. -/
import Derived.Test.YtloakenighnfgaaCvx01
set_option linter.unusedVariables false
namespace Go.Proofs.Ytloakenighnfgaa
open Go.RowKit
inductive Nd where
  | mk (op k : Int) (A : Option Addr) (n c : Nat) (kids : List Nd)
namespace Nd
def inR (v : Int) : Bool := decide (-2147483648 ≤ v ∧ v ≤ 2147483647)
def opV (op a b : Int) : Int := if op = 2 then a + b else if op = 3 then a - b else a * b
def formed (m : Nat) : Nd → Bool
  | .mk op k _ _ _ kids =>
    if op = 0 then true
    else if op = 1 then decide (0 ≤ k ∧ k < (m : Int))
    else if op = 2 ∨ op = 3 ∨ op = 4 then
      match kids with
      | [a, b] => formed m a && formed m b
      | _ => false
    else false
def reckon (vs : List Int) : Nd → Int × Bool
  | .mk op k _ _ _ kids =>
    if op = 2 ∨ op = 3 ∨ op = 4 then
      match kids with
      | [a, b] => if (reckon vs a).2 = true ∧ (reckon vs b).2 = true then (opV op (reckon vs a).1 (reckon vs b).1, inR (opV op (reckon vs a).1 (reckon vs b).1)) else (0, false)
      | _ => (0, false)
    else if op = 1 then (vs.getD k.toNat 0, inR (vs.getD k.toNat 0))
    else (k, inR k)
def value (arg bound : Nat) (vs : List Int) (d : Nd) : Int × Nat :=
  if formed vs.length d = false then (0, arg) else if (reckon vs d).2 = false then (0, bound) else ((reckon vs d).1, 0)
def rvalue (arg bound : Nat) (vs : List Int) : Nd → Int × Nat
  | .mk op k _ _ _ kids =>
    if (op = 1 ∧ (k < 0 ∨ k ≥ (vs.length : Int))) ∨ op < 0 ∨ op > 4 ∨ (op > 1 ∧ kids.length ≠ 2) then (0, arg)
    else if op = 1 then (if inR (vs.getD k.toNat 0) = true then (vs.getD k.toNat 0, 0) else (0, bound))
    else if op > 1 then
      match kids with
      | [a, b] =>
        if (rvalue arg bound vs a).2 = arg ∨ (rvalue arg bound vs b).2 = arg then (0, arg)
        else if (rvalue arg bound vs a).2 ≠ 0 ∨ (rvalue arg bound vs b).2 ≠ 0 then (0, bound)
        else if inR (opV op (rvalue arg bound vs a).1 (rvalue arg bound vs b).1) = true then (opV op (rvalue arg bound vs a).1 (rvalue arg bound vs b).1, 0) else (0, bound)
      | _ => (0, arg)
    else (if inR k = true then (k, 0) else (0, bound))
theorem value_same (arg bound : Nat) (ha : arg ≠ 0) (hb : bound ≠ 0) (hab : bound ≠ arg) (vs : List Int) : ∀ d, value arg bound vs d = rvalue arg bound vs d
  | .mk op k A n c kids => by
    have key : ∀ d, value arg bound vs d = rvalue arg bound vs d → (formed vs.length d = false ↔ (rvalue arg bound vs d).2 = arg) ∧ (formed vs.length d = true → ((reckon vs d).2 = false ↔ (rvalue arg bound vs d).2 = bound) ∧ ((reckon vs d).2 = true → rvalue arg bound vs d = ((reckon vs d).1, 0))) := by
      intro d h
      rw [← h]
      unfold value
      cases h1 : formed vs.length d <;> cases h2 : (reckon vs d).2 <;> simp [ha, hb, hab, Ne.symm ha, Ne.symm hb]
    by_cases h2 : op = 2 ∨ op = 3 ∨ op = 4
    · match kids with
      | [] => simp [value, formed, rvalue, h2, show ¬ op = 0 by omega, show ¬ op = 1 by omega, show op > 1 by omega]
      | [x] => simp [value, formed, rvalue, h2, show ¬ op = 0 by omega, show ¬ op = 1 by omega, show op > 1 by omega]
      | x :: y :: z :: l => simp [value, formed, rvalue, h2, show ¬ op = 0 by omega, show ¬ op = 1 by omega, show op > 1 by omega]
      | [x, y] =>
        obtain ⟨x1, x2⟩ := key x (value_same arg bound ha hb hab vs x)
        obtain ⟨y1, y2⟩ := key y (value_same arg bound ha hb hab vs y)
        have hf : formed vs.length (.mk op k A n c [x, y]) = (formed vs.length x && formed vs.length y) := by
          rw [formed, if_neg (by omega), if_neg (by omega), if_pos h2]
        have hr : reckon vs (.mk op k A n c [x, y]) = if (reckon vs x).2 = true ∧ (reckon vs y).2 = true then (opV op (reckon vs x).1 (reckon vs y).1, inR (opV op (reckon vs x).1 (reckon vs y).1)) else (0, false) := by
          rw [reckon, if_pos h2]
        have hv : rvalue arg bound vs (.mk op k A n c [x, y]) = if (rvalue arg bound vs x).2 = arg ∨ (rvalue arg bound vs y).2 = arg then (0, arg)
            else if (rvalue arg bound vs x).2 ≠ 0 ∨ (rvalue arg bound vs y).2 ≠ 0 then (0, bound)
            else if inR (opV op (rvalue arg bound vs x).1 (rvalue arg bound vs y).1) = true then (opV op (rvalue arg bound vs x).1 (rvalue arg bound vs y).1, 0) else (0, bound) := by
          rw [rvalue, if_neg (by simp; omega), if_neg (by omega), if_pos (by omega)]
        rw [value, hf, hr, hv]
        cases fx : formed vs.length x with
        | false =>
          have := x1.1 fx
          simp [this]
        | true =>
          cases fy : formed vs.length y with
          | false =>
            have := y1.1 fy
            simp [this]
          | true =>
            have nx : ¬ (rvalue arg bound vs x).2 = arg := fun h => by have := x1.2 h; rw [fx] at this; cases this
            have ny : ¬ (rvalue arg bound vs y).2 = arg := fun h => by have := y1.2 h; rw [fy] at this; cases this
            have nxy : ¬ ((rvalue arg bound vs x).2 = arg ∨ (rvalue arg bound vs y).2 = arg) := by simp [nx, ny]
            rw [if_neg nxy, if_neg (show ¬ ((true && true) = false) by simp)]
            cases rx : (reckon vs x).2 with
            | false =>
              have := (x2 fx).1.1 rx
              simp [this, hb]
            | true =>
              have ex := (x2 fx).2 rx
              cases ry : (reckon vs y).2 with
              | false =>
                have := (y2 fy).1.1 ry
                simp [this, hb]
              | true =>
                have ey := (y2 fy).2 ry
                simp only [ex, ey]
                cases inR (opV op (reckon vs x).1 (reckon vs y).1) <;> simp
    · by_cases h1 : op = 1
      · subst h1
        by_cases hk : 0 ≤ k ∧ k < (vs.length : Int)
        · have hf : formed vs.length (.mk 1 k A n c kids) = true := by unfold formed; simp [hk]
          have hv : rvalue arg bound vs (.mk 1 k A n c kids) = if inR (vs.getD k.toNat 0) = true then (vs.getD k.toNat 0, 0) else (0, bound) := by unfold rvalue; rw [if_neg (by omega), if_pos rfl]
          have hr : reckon vs (.mk 1 k A n c kids) = (vs.getD k.toNat 0, inR (vs.getD k.toNat 0)) := by unfold reckon; rw [if_neg (by omega), if_pos rfl]
          rw [value, hf, hr, hv]
          cases inR (vs.getD k.toNat 0) <;> simp
        · have hf : formed vs.length (.mk 1 k A n c kids) = false := by unfold formed; simp; omega
          have hv : rvalue arg bound vs (.mk 1 k A n c kids) = (0, arg) := by unfold rvalue; rw [if_pos (by omega)]
          rw [value, hf, hv]
          rfl
      · by_cases h0 : op = 0
        · subst h0
          have hf : formed vs.length (.mk 0 k A n c kids) = true := by unfold formed; simp
          have hr : reckon vs (.mk 0 k A n c kids) = (k, inR k) := by unfold reckon; rw [if_neg (by omega), if_neg (by omega)]
          have hv : rvalue arg bound vs (.mk 0 k A n c kids) = if inR k = true then (k, 0) else (0, bound) := by unfold rvalue; rw [if_neg (by omega), if_neg (by omega), if_neg (by omega)]
          rw [value, hf, hr, hv]
          cases inR k <;> simp
        · have hf : formed vs.length (.mk op k A n c kids) = false := by unfold formed; rw [if_neg h0, if_neg h1, if_neg h2]
          have hv : rvalue arg bound vs (.mk op k A n c kids) = (0, arg) := by unfold rvalue; rw [if_pos (by omega)]
          rw [value, hf, hv]
          rfl
def size (wr : Int → Int) : Nd → Int × Int
  | .mk op _ _ _ _ kids =>
    if op < 2 ∨ op > 4 then (1, 1)
    else
      match kids with
      | [a, b] => (wr (wr (1 + (size wr a).1) + (size wr b).1), max (size wr a).2 (wr ((size wr b).2 + 1)))
      | _ => (1, 1)
def rsize (wr : Int → Int) : Nd → Int × Int
  | .mk op _ _ _ _ kids =>
    if op < 2 ∨ op > 4 then (1, 1)
    else
      match kids with
      | [a, b] => (wr (wr ((rsize wr a).1 + (rsize wr b).1) + 1), if wr ((rsize wr b).2 + 1) > (rsize wr a).2 then wr ((rsize wr b).2 + 1) else (rsize wr a).2)
      | _ => (1, 1)
theorem size_same (wr : Int → Int) (hw : ∀ a b, wr (wr (1 + a) + b) = wr (wr (a + b) + 1)) : ∀ d, size wr d = rsize wr d
  | .mk op k A n c kids => by
    by_cases h : op < 2 ∨ op > 4
    · unfold size rsize; rw [if_pos h, if_pos h]
    · match kids with
      | [] => unfold size rsize; rw [if_neg h]
      | [x] => unfold size rsize; rw [if_neg h]
      | x :: y :: z :: l => unfold size rsize; rw [if_neg h]
      | [x, y] =>
        have ex := size_same wr hw x
        have ey := size_same wr hw y
        rw [size, rsize, if_neg h, if_neg h]
        simp only [ex, ey, hw]
        congr 1
        split <;> omega
end Nd
end Go.Proofs.Ytloakenighnfgaa
