/- The scanner's escape. -/
import Derived.Test.YtkpacpkldjfbhaaLex6
namespace Go.Proofs.Ytkpacpkldjfbhaa
open Go.RowKit

def escB (r : List UInt8) : UInt8 := match Lx.esc r with | some (m, _) => m | none => 0
def escN (r : List UInt8) : Nat := match Lx.esc r with | some (_, k) => k | none => 0

theorem ib_hex (x : UInt8) : Lib.indexByte Lx.hexDigits x = hexI x := by
  have h : ∀ n : Fin 256, Lib.indexByte Lx.hexDigits (UInt8.ofNat n.val) = hexI (UInt8.ofNat n.val) := by decide +kernel
  have := h ⟨x.toNat, x.toNat_lt⟩
  simpa using this
theorem hexI_some {x : UInt8} {v : Nat} (h : Lx.hexV x = some v) : hexI x = v := by unfold hexI; rw [h]
theorem hexI_none {x : UInt8} (h : Lx.hexV x = none) : hexI x = -1 := by unfold hexI; rw [h]
theorem hexV_lt {x : UInt8} {v : Nat} (h : Lx.hexV x = some v) : v < 16 := by
  have h1 := hexI_some h
  rw [hexI_eq] at h1
  split at h1
  · omega
  · split at h1
    · omega
    · omega

theorem quiet_same {P : Program} {f : FuncId} {args : Array Value} {w : World} {n : Nat} {v : Value}
    (h : Calls P f args (w.drewN n) fun e w' => e = .returned v ∧ w' = w.drewN n) : Calls P f args (w.drewN n) fun e w'' => e = .returned v ∧ ∃ m, w'' = w.drewN m := Calls.quiet_of_same h

theorem bget (l : List UInt8) (k : Nat) (x : UInt8) (hk : k < (bytesOf l).size) (h : l[k]? = some x) : (bytesOf l)[k] = x := by
  have := str_at (bytesOf l) k hk
  rw [bytesOf_toList, h] at this
  injection this with this
  exact this.symm
theorem ret2 {a b : UInt8} {m n : Nat} (h1 : a = b) (h2 : m = n) : Ending.returned (.tuple #[.int .u8 a.toNat, .int .i64 m]) = .returned (.tuple #[.int .u8 b.toNat, .int .i64 n]) := by rw [h1, h2]

set_option maxHeartbeats 4000000 in
theorem escape_any (g : Nat) (s : ByteArray) (i : Nat) (r : List UInt8) (w : World) (c0 : w.cell? ⟨g, 0, none⟩ = some (.string s)) (hi : i < s.size) (hs : s.size ≤ 8000) (hr : r = s.data.toList.drop (i + 1)) :
    Calls Try.prog 67 #[.pointer (some ⟨g, 0, none⟩), .int .i64 i] w fun e w' => e = .returned (.tuple #[.int .u8 (escB r).toNat, .int .i64 (escN r)]) ∧ ∃ q, w' = w.drewN q := by
  have hext : s.extract (i + 1) s.size = bytesOf r := by
    rw [extract_eq, hr, List.take_of_length_le (by simp)]
  have hsz := bytesOf_size r
  have hrl : r.length ≤ 8000 := by rw [hr]; simp; omega
  have j0 : (0 : Int) ≤ (i : Int) + 1 := by omega
  have j1 : (i : Int) + 1 ≤ (s.size : Int) := by omega
  clear hr
  have htl : (bytesOf r).toList = r := by rw [ByteArray.toList_eq, bytesOf_toList]
  cases r with
  | nil =>
    have hem : (bytesOf []).toList.isEmpty = true := by rw [htl]; rfl
    have HV : Hid (escB [] = 0 ∧ escN [] = 0) := ⟨rfl, rfl⟩
    clear htl
    generalize bytesOf [] = T at *
    go_enter Try.func67, Try.ntmps67
    go_wp2_with fail
    go_ret2
    exact ⟨by rw [HV.out.1, HV.out.2]; rfl, 0, rfl⟩
  | cons c r' =>
    have hem : (bytesOf (c :: r')).toList.isEmpty = false := by rw [htl]; rfl
    have hp0 : 0 < (bytesOf (c :: r')).size := by rw [hsz]; simp
    have hT0 : (bytesOf (c :: r'))[0]'hp0 = c := bget _ 0 c hp0 rfl
    by_cases h34 : c = 34
    · have HV : Hid (escB (c :: r') = c ∧ escN (c :: r') = 2) := by subst h34; exact ⟨rfl, rfl⟩
      have e1 : ((c.toNat : Int) == 34) = true := by rw [h34]; rfl
      clear htl h34 hsz
      generalize bytesOf (c :: r') = T at *
      go_enter Try.func67, Try.ntmps67
      go_wp2_with fail
      go_ret2
      exact ⟨by rw [HV.out.1, HV.out.2]; rfl, 0, rfl⟩
    · have e1 : ((c.toNat : Int) == 34) = false := byte_ne (k := 34) h34
      by_cases h92 : c = 92
      · have HV : Hid (escB (c :: r') = c ∧ escN (c :: r') = 2) := by subst h92; exact ⟨rfl, rfl⟩
        have e2 : ((c.toNat : Int) == 92) = true := by rw [h92]; rfl
        clear htl h34 h92 hsz
        generalize bytesOf (c :: r') = T at *
        go_enter Try.func67, Try.ntmps67
        go_wp2_with fail
        go_ret2
        exact ⟨by rw [HV.out.1, HV.out.2]; rfl, 0, rfl⟩
      · have e2 : ((c.toNat : Int) == 92) = false := byte_ne (k := 92) h92
        by_cases h110 : c = 110
        · have HV : Hid (escB (c :: r') = 10 ∧ escN (c :: r') = 2) := by subst h110; exact ⟨rfl, rfl⟩
          have e3 : ((c.toNat : Int) == 110) = true := by rw [h110]; rfl
          clear htl h34 h92 h110 hsz
          generalize bytesOf (c :: r') = T at *
          go_enter Try.func67, Try.ntmps67
          go_wp2_with fail
          go_ret2
          exact ⟨by rw [HV.out.1, HV.out.2]; rfl, 0, rfl⟩
        · have e3 : ((c.toNat : Int) == 110) = false := byte_ne (k := 110) h110
          by_cases h120 : c = 120
          · have e4 : ((c.toNat : Int) == 120) = true := by rw [h120]; rfl
            match r' with
            | [] =>
              have HV : Hid (escB (c :: []) = 0 ∧ escN (c :: []) = 0) := by subst h120; exact ⟨rfl, rfl⟩
              have hs1 : (bytesOf (c :: [])).size = 1 := hsz
              clear htl h34 h92 h110 h120 hsz
              generalize bytesOf (c :: []) = T at *
              go_enter Try.func67, Try.ntmps67
              go_wp2_with fail
              go_ret2
              exact ⟨by rw [HV.out.1, HV.out.2]; rfl, 0, rfl⟩
            | [a] =>
              have HV : Hid (escB (c :: [a]) = 0 ∧ escN (c :: [a]) = 0) := by subst h120; exact ⟨rfl, rfl⟩
              have hs1 : (bytesOf (c :: [a])).size = 2 := hsz
              clear htl h34 h92 h110 h120 hsz
              generalize bytesOf (c :: [a]) = T at *
              go_enter Try.func67, Try.ntmps67
              go_wp2_with fail
              go_ret2
              exact ⟨by rw [HV.out.1, HV.out.2]; rfl, 0, rfl⟩
            | a :: b :: r2 =>
              have hp2 : 2 < (bytesOf (c :: a :: b :: r2)).size := by rw [hsz]; simp
              have hT1 : (bytesOf (c :: a :: b :: r2))[1]'(Nat.lt_trans (by decide : 1 < 2) hp2) = a := bget _ 1 a (Nat.lt_trans (by decide : 1 < 2) hp2) rfl
              have hT2 : (bytesOf (c :: a :: b :: r2))[2]'hp2 = b := bget _ 2 b hp2 rfl
              have hsb : (bytesOf (c :: a :: b :: r2)).size ≤ 8000 := by rw [hsz]; exact hrl
              have hia := ib_hex a
              have hib := ib_hex b
              unfold Lx.hexDigits at hia hib
              have HV : Hid (escB (c :: a :: b :: r2) = (match Lx.hexV a, Lx.hexV b with | some x, some y => UInt8.ofNat (16 * x + y) | _, _ => 0) ∧ escN (c :: a :: b :: r2) = (match Lx.hexV a, Lx.hexV b with | some _, some _ => 4 | _, _ => 0)) := by
                subst h120
                show _ ∧ _
                have hesc : Lx.esc (120 :: a :: b :: r2) = (match Lx.hexV a, Lx.hexV b with | some x, some y => some (UInt8.ofNat (16 * x + y), 4) | _, _ => none) := by rfl
                unfold escB escN
                rw [hesc]
                cases Lx.hexV a <;> cases Lx.hexV b <;> exact ⟨rfl, rfl⟩
              clear htl h34 h92 h110 h120 hsz
              generalize bytesOf (c :: a :: b :: r2) = T at *
              cases ha : Lx.hexV a with
              | none =>
                rw [hexI_none ha] at hia
                have HV2 : Hid (escB (c :: a :: b :: r2) = 0 ∧ escN (c :: a :: b :: r2) = 0) := by have := HV.out; rw [ha] at this; exact this
                clear HV ha
                generalize hexI b = vb at *
                go_enter Try.func67, Try.ntmps67
                go_wp2_with fail
                go_quiet ((go_at_call 52; exact Calls.quiet_of_same (indexByte_any _ _ _)))
                go_wp2_with fail
                go_ret2
                exact ⟨by rw [HV2.out.1, HV2.out.2]; rfl, nq, rfl⟩
              | some va =>
                rw [hexI_some ha] at hia
                have hva := hexV_lt ha
                cases hb : Lx.hexV b with
                | none =>
                  rw [hexI_none hb] at hib
                  have HV2 : Hid (escB (c :: a :: b :: r2) = 0 ∧ escN (c :: a :: b :: r2) = 0) := by have := HV.out; rw [ha, hb] at this; exact this
                  clear HV ha hb
                  go_enter Try.func67, Try.ntmps67
                  go_wp2_with fail
                  go_quiet ((go_at_call 52; exact Calls.quiet_of_same (indexByte_any _ _ _)))
                  go_wp2_with fail
                  go_ret2
                  exact ⟨by rw [HV2.out.1, HV2.out.2]; rfl, nq, rfl⟩
                | some vb =>
                  rw [hexI_some hb] at hib
                  have hvb := hexV_lt hb
                  have HV2 : Hid (escB (c :: a :: b :: r2) = UInt8.ofNat (16 * va + vb) ∧ escN (c :: a :: b :: r2) = 4) := by have := HV.out; rw [ha, hb] at this; exact this
                  have hof : ((UInt8.ofNat (16 * va + vb)).toNat : Int) = 16 * (va : Int) + vb := by simp; omega
                  have HOF := Lib.hid hof
                  clear HV ha hb hof
                  go_enter Try.func67, Try.ntmps67
                  go_wp2_with fail
                  go_quiet ((go_at_call 52; exact Calls.quiet_of_same (indexByte_any _ _ _)))
                  go_wp2_with fail
                  go_ret2
                  refine ⟨?_, nq, rfl⟩
                  rw [HV2.out.1, HV2.out.2, HOF.out]
                  rfl
          · have e4 : ((c.toNat : Int) == 120) = false := byte_ne (k := 120) h120
            have HV : Hid (escB (c :: r') = 0 ∧ escN (c :: r') = 0) := by
              have : Lx.esc (c :: r') = none := by simp [Lx.esc, h34, h92, h110, h120]
              show _ ∧ _
              unfold escB escN
              rw [this]
              exact ⟨rfl, rfl⟩
            clear htl h34 h92 h110 h120 hsz
            generalize bytesOf (c :: r') = T at *
            go_enter Try.func67, Try.ntmps67
            go_wp2_with fail
            go_ret2
            exact ⟨by rw [HV.out.1, HV.out.2]; rfl, 0, rfl⟩

end Go.Proofs.Ytkpacpkldjfbhaa
