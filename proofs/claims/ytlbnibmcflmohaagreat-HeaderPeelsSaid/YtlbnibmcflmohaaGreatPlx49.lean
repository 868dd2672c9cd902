/- Part of the proof: Two, Sdl, One. -/
import Derived.Test.YtlbnibmcflmohaaGreatPlx47
namespace Go.Proofs.YtlbnibmcflmohaaGreat
open Go.RowKit
def TwoV (B G T : Nat) (w : World) (v10 v11 : Value) (n10 n11 : Nat) (acc : List Value) (sc : List (List UInt8)) (vs : List Value) : Prop :=
  w.ownsRow B T 192 v10 n10 acc ∧ w.ownsRow B 23 1 v11 n11 vs ∧ sc.length = vs.length ∧ (∀ b, v10.ownBlock = some b → v11.ownBlock ≠ some b) ∧
    ∀ (i : Nat) (v : Value), vs[i]? = some v → ∃ l A c, v = .slice A 32 c ∧ 32 ≤ c ∧ sc[i]? = some l ∧ Rd w A 32 (u8s l) ∧ ∀ ad, A = some ad → ad.block < w.heap.size ∧ ad.block ≠ G ∧ v10.ownBlock ≠ some ad.block ∧ v11.ownBlock ≠ some ad.block
def Two (B G T : Nat) (w : World) (v10 v11 : Value) (n10 n11 : Nat) (acc : List Value) (sc : List (List UInt8)) : Prop := ∃ vs : List Value, TwoV B G T w v10 v11 n10 n11 acc sc vs
theorem Rd.blk_lt {w : World} {A : Option Addr} {n : Nat} {xs : List Value} (h : Rd w A n xs) (hn : 0 < n) : ∀ ad, A = some ad → ad.block < w.heap.size := by
  intro ad e
  obtain ⟨b, off, e2, hb, _⟩ := h.2 hn
  rw [e2] at e
  injection e with e
  subst e
  exact hb
theorem Rd.grownR {w w' : World} {A : Option Addr} {n : Nat} {xs : List Value} {row : Option Nat} (h : Rd w A n xs) (hg : w.grownBy w' row) (hne : ∀ ad, A = some ad → row ≠ some ad.block) : Rd w' A n xs := by
  refine ⟨h.1, fun hn => ?_⟩
  obtain ⟨b, off, e, hb, hc⟩ := h.2 hn
  refine ⟨b, off, e, Nat.lt_of_lt_of_le hb hg.size, fun j u hu => ?_⟩
  exact hg.cell (hc j u hu) (fun e2 => hne _ e e2.symm)
theorem Two.below {B G T : Nat} {w w' : World} {v10 v11 : Value} {n10 n11 : Nat} {acc : List Value} {sc : List (List UInt8)} (h : Two B G T w v10 v11 n10 n11 acc sc) (hB : Below w.heap.size w w') : Two B G T w' v10 v11 n10 n11 acc sc := by
  obtain ⟨vs, h1, h2, h3, h4, h5⟩ := h
  refine ⟨vs, own_below h1 hB, own_below h2 hB, h3, h4, fun i v hv => ?_⟩
  obtain ⟨l, A, c, e, hc, hl, hr, ha⟩ := h5 i v hv
  exact ⟨l, A, c, e, hc, hl, hr.below hB, fun ad e2 => ⟨Nat.lt_of_lt_of_le (ha ad e2).1 hB.size, (ha ad e2).2⟩⟩
theorem Two.only {B G T : Nat} {w w' : World} {v10 v11 : Value} {n10 n11 : Nat} {acc : List Value} {sc : List (List UInt8)} (h : Two B G T w v10 v11 n10 n11 acc sc) (ho : Only w w' G) (hG : G < B) : Two B G T w' v10 v11 n10 n11 acc sc := by
  obtain ⟨vs, h1, h2, h3, h4, h5⟩ := h
  refine ⟨vs, own_only h1 ho (fun k hk => by have := (h1.lt k hk).1; omega), own_only h2 ho (fun k hk => by have := (h2.lt k hk).1; omega), h3, h4, fun i v hv => ?_⟩
  obtain ⟨l, A, c, e, hc, hl, hr, ha⟩ := h5 i v hv
  exact ⟨l, A, c, e, hc, hl, ho.rd hr (fun ad e2 => (ha ad e2).2.1), fun ad e2 => ⟨Nat.lt_of_lt_of_le (ha ad e2).1 ho.grown.size, (ha ad e2).2⟩⟩
theorem Two.rdB {B G T : Nat} {w : World} {v10 : Value} {A11 : Option Addr} {n10 n11 c11 : Nat} {acc : List Value} {sc : List (List UInt8)} (h : Two B G T w v10 (.slice A11 n11 c11) n10 n11 acc sc) : RdB w A11 n11 sc := by
  obtain ⟨vs, _, h2, h3, _, h5⟩ := h
  have hr := Rd.of_own h2
  refine ⟨vs, hr, by rw [h3, hr.1], fun i v hv => ?_⟩
  obtain ⟨l, A, c, e, hc, hl, hr, _⟩ := h5 i v hv
  exact ⟨l, hl, A, 32, c, e, hc, hr⟩
theorem Two.own10 {B G T : Nat} {w : World} {v10 v11 : Value} {n10 n11 : Nat} {acc : List Value} {sc : List (List UInt8)} (h : Two B G T w v10 v11 n10 n11 acc sc) : w.ownsRow B T 192 v10 n10 acc := by
  obtain ⟨vs, h1, _⟩ := h; exact h1
theorem Two.app10 {B G T : Nat} {w w' : World} {v10 v11 v' : Value} {n10 n11 n' : Nat} {acc acc' : List Value} {sc : List (List UInt8)} (h : Two B G T w v10 v11 n10 n11 acc sc) (ho : w'.ownsRow B T 192 v' n' acc') (hg : w.grownBy w' v10.ownBlock) (hat : v'.ownBlock = v10.ownBlock ∨ v'.ownBlock = some w.heap.size) :
    Two B G T w' v' v11 n' n11 acc' sc := by
  obtain ⟨vs, h1, h2, h3, h4, h5⟩ := h
  have hlt : ∀ b, v11.ownBlock = some b → b < w.heap.size := fun b hb => (h2.lt b hb).2
  refine ⟨vs, ho, h2.kept hg ?_, h3, ?_, fun i v hv => ?_⟩
  · cases hv : v11.ownBlock with
    | none => exact .inl rfl
    | some k => exact .inr (fun e => h4 k e.symm hv)
  · intro b hb hb2
    rcases hat with e | e
    · exact h4 b (e ▸ hb) hb2
    · rw [e] at hb
      injection hb with hb
      subst hb
      exact absurd (hlt _ hb2) (Nat.lt_irrefl _)
  · obtain ⟨l, A, c, e, hc, hl, hr, ha⟩ := h5 i v hv
    refine ⟨l, A, c, e, hc, hl, hr.grownR hg (fun ad e2 => (ha ad e2).2.2.1), fun ad e2 => ?_⟩
    obtain ⟨a1, a2, a3, a4⟩ := ha ad e2
    refine ⟨Nat.lt_of_lt_of_le a1 hg.size, a2, fun e3 => ?_, a4⟩
    rcases hat with e | e
    · exact a3 (e ▸ e3)
    · rw [e] at e3
      injection e3 with e3
      omega
theorem Two.app11 {B G T : Nat} {w w' : World} {v10 v11 v' : Value} {n10 n11 n' c : Nat} {A : Option Addr} {acc : List Value} {vs : List Value} {sc : List (List UInt8)} {l : List UInt8} (h : TwoV B G T w v10 v11 n10 n11 acc sc vs)
    (ho : w'.ownsRow B 23 1 v' n' (vs ++ [.slice A 32 c])) (hg : w.grownBy w' v11.ownBlock) (hat : v'.ownBlock = v11.ownBlock ∨ v'.ownBlock = some w.heap.size)
    (hc : 32 ≤ c) (hr : Rd w A 32 (u8s l)) (ha : ∀ ad, A = some ad → ad.block ≠ G ∧ v10.ownBlock ≠ some ad.block ∧ v11.ownBlock ≠ some ad.block) : Two B G T w' v10 v' n10 n' acc (sc ++ [l]) := by
  obtain ⟨h1, h2, h3, h4, h5⟩ := h
  have hlt : ∀ b, v10.ownBlock = some b → b < w.heap.size := fun b hb => (h1.lt b hb).2
  refine ⟨vs ++ [.slice A 32 c], h1.kept hg ?_, ho, by simp [h3], ?_, fun i v hv => ?_⟩
  · cases hv : v10.ownBlock with
    | none => exact .inl rfl
    | some k => exact .inr (fun e => h4 k hv e.symm)
  · intro b hb hb2
    rcases hat with e | e
    · exact h4 b hb (e ▸ hb2)
    · rw [e] at hb2
      injection hb2 with hb2
      subst hb2
      exact absurd (hlt _ hb) (Nat.lt_irrefl _)
  · have hne : ∀ ad : Addr, ad.block < w.heap.size → v11.ownBlock ≠ some ad.block → v'.ownBlock ≠ some ad.block := fun ad a1 a4 e3 => by
      rcases hat with e | e
      · exact a4 (e ▸ e3)
      · rw [e] at e3
        injection e3 with e3
        omega
    rcases Nat.lt_or_ge i vs.length with hi | hi
    · rw [List.getElem?_append_left hi] at hv
      obtain ⟨l', A', c', e, hc', hl', hr', ha'⟩ := h5 i v hv
      refine ⟨l', A', c', e, hc', by rw [List.getElem?_append_left (by rw [h3]; exact hi)]; exact hl', hr'.grownR hg (fun ad e2 => (ha' ad e2).2.2.2), fun ad e2 => ?_⟩
      obtain ⟨a1, a2, a3, a4⟩ := ha' ad e2
      exact ⟨Nat.lt_of_lt_of_le a1 hg.size, a2, a3, hne ad a1 a4⟩
    · rw [List.getElem?_append_right hi] at hv
      have hi0 : i - vs.length = 0 := by
        have := (List.getElem?_eq_some_iff.1 hv).1
        simp at this
        omega
      rw [hi0] at hv
      simp only [List.getElem?_cons_zero, Option.some.injEq] at hv
      subst hv
      refine ⟨l, A, c, rfl, hc, by rw [List.getElem?_append_right (by rw [h3]; exact hi), h3, hi0]; rfl, hr.grownR hg (fun ad e2 => (ha ad e2).2.2), fun ad e2 => ?_⟩
      have a1 := hr.blk_lt (by omega) ad e2
      exact ⟨Nat.lt_of_lt_of_le a1 hg.size, (ha ad e2).1, (ha ad e2).2.1, hne ad a1 (ha ad e2).2.2⟩
theorem Two.fresh {B G T : Nat} {w : World} {v10 v11 : Value} {n10 n11 : Nat} {acc : List Value} {sc : List (List UInt8)} (h : Two B G T w v10 v11 n10 n11 acc sc) (hG : G < w.heap.size) (o : Nat) : ∀ ad : Addr, (some ⟨w.heap.size, o, none⟩ : Option Addr) = some ad → ad.block ≠ G ∧ v10.ownBlock ≠ some ad.block ∧ v11.ownBlock ≠ some ad.block := by
  intro ad e
  injection e with e
  subst e
  obtain ⟨vs, h1, h2, _⟩ := h
  refine ⟨by show w.heap.size ≠ _; omega, fun e2 => ?_, fun e2 => ?_⟩
  · exact absurd (h1.lt _ e2).2 (Nat.lt_irrefl _)
  · exact absurd (h2.lt _ e2).2 (Nat.lt_irrefl _)
end Go.Proofs.YtlbnibmcflmohaaGreat
namespace Go.Proofs.YtlbnibmcflmohaaGreat
open Go.RowKit
attribute [local go_sem ↓] ldq_69 ldq_b32 stq_b32
theorem RdS.ofOwn2 {w : World} {base n c sz : Nat} {e : TypeId} {A : Option Addr} {xs : List Value} (h : w.ownsRow base e sz (.slice A n c) n xs) : RdS sz w A n xs := by
  refine ⟨h.1, fun hn => ?_⟩
  rcases h.2 with ⟨_, h0⟩ | ⟨g, cap, cur, hv, _, hg, hnc, _, hcs, htake⟩
  · omega
  · injection hv with hA
    subst hA
    refine ⟨g, 0, rfl, (Array.getElem?_eq_some_iff.1 hg).1, fun j u hu => ?_⟩
    rw [cell_of_row w g (0 + j) cur e (0, 0) hg, Nat.zero_add]
    rw [← htake, List.getElem?_take] at hu
    split at hu
    · simpa using hu
    · cases hu
theorem st32 {w : World} {g : Nat} {t : TypeId} {Z X : List Value} (hb : Blk w g t Z) (hz : Z.length = 32) (hx : X.length = 32) (h1 : ∀ v ∈ X, v.oneCell' = true) : ∃ w', (stAt 26 (.pointer (some ⟨g, 0, none⟩)) (.agg X.toArray)).run Tryz.prog w = .ok () w' ∧ Only w w' g ∧ Blk w' g t X := by
  refine ⟨w.setCells g 0 X, stAt_run hb 26 0 X (by omega) h1 (by rw [hx]; exact hd24), Only.of_setCells w g 0 X, ?_⟩
  have h := setCells_heap g t X 0 Z w hb (by omega)
  rwa [splice_whole _ _ (by omega)] at h
theorem iSp : (Tryz.prog.info? 43).map (fun i => (i.zero, i.size, i.bytes)) = some (some (.agg (u8s (List.replicate 192 0)).toArray), 192, 192) := by kernel_rfl
theorem eSpz : ElemIs Tryz.prog 43 192 192 := ElemIs.of iSp (by show (u8s (List.replicate 192 0)).toArray.size = 192; rw [List.size_toArray, u8s_length, List.length_replicate]) (by omega)
theorem u8s_rep (n : Nat) : u8s (List.replicate n 0) = List.replicate n (.int .u8 0) := by simp [u8s, u8]
set_option maxRecDepth 100000 in
set_option maxHeartbeats 4000000 in
theorem sched_no (A C : Option Addr) (n c m d : Nat) (w : World) (h : n ≠ 32 ∨ m < 1 ∨ 5 < m) :
    Calls Tryz.prog 7 #[.slice A n c, .slice C m d] w fun e w' => e = .returned (.tuple #[.slice none 0 0, .int .i64 2]) ∧ w = w' := by
  rcases Decidable.em (n = 32) with h1 | h1
  · subst h1
    rcases Nat.lt_or_ge m 1 with h2 | h2
    · have h3 : (m : Int) < 1 := by omega
      clear h
      go_enter Tryz.func7, Tryz.ntmps7
      go_wp2
      go_ret2
      exact ⟨rfl, rfl⟩
    · have h3 : ¬ (m : Int) < 1 := by omega
      have h4 : (m : Int) > 5 := by omega
      clear h
      go_enter Tryz.func7, Tryz.ntmps7
      go_wp2
      go_ret2
      exact ⟨rfl, rfl⟩
  · have hn : ((n : Int) != 32) = true := by rw [bne_iff_ne]; omega
    clear h h1
    go_enter Tryz.func7, Tryz.ntmps7
    go_wp2
    go_ret2
    exact ⟨rfl, rfl⟩
set_option maxRecDepth 100000 in
set_option maxHeartbeats 8000000 in
theorem sched_yes (A C : Option Addr) (c m d : Nat) (xs : List UInt8) (pubs : List (List UInt8)) (w : World) (hx : Rd w A 32 (u8s xs)) (hc : 32 ≤ c) (hp : RdB w C m pubs) (h32 : ∀ p ∈ pubs, p.length = 32) (hm0 : 1 ≤ m) (hm : m ≤ 5) :
    Calls Tryz.prog 7 #[.slice A 32 c, .slice C m d] w fun e w' => ∃ A' n' c', e = .returned (.tuple #[.slice A' n' c', .int .i64 ((sch [] [xs] (pubB xs) pubs).2 : Int)]) ∧ n' ≤ c' ∧ RdS 192 w' A' n' ((sch [] [xs] (pubB xs) pubs).1.flatMap Sp.cells) ∧ (sch [] [xs] (pubB xs) pubs).1.length = n' ∧ Below w.heap.size w w' := by
  obtain ⟨R, hR⟩ : ∃ R, R = sch [] [xs] (pubB xs) pubs := ⟨_, rfl⟩
  rw [← hR]
  have HRR : Hid (sch [] [xs] (pubB xs) pubs = R) := hR.symm
  have HX := Lib.hid hx
  have HXL := Lib.hid hx.len
  have HPB := Lib.hid hp
  have H32 := Lib.hid h32
  have HML : Hid (pubs.length = m) := by obtain ⟨_, _, h, _⟩ := hp; exact h
  have HC := Lib.hid hc
  have HAL := Lib.hid (hx.blk_lt (by omega))
  have m1 : ¬ (m : Int) < 1 := by omega
  have m5 : ¬ (m : Int) > 5 := by omega
  have HPUB : Hid (∀ W, Rd W A 32 (u8s xs) → Calls Tryz.prog 14 #[.slice A 32 c] W fun e w' => e = .returned (.tuple #[.agg (u8s (pubB xs)).toArray, .int .i64 0]) ∧ Below W.heap.size W w') := fun W h => public_yes A c xs W h
  have HGD : Hid (Good (pubB xs)) := pub_good hx.len
  have HNL : Hid ((u8s (pubB xs)).length = 32) := by show _ = _; rw [u8s_length, HGD.out.len]
  clear hx hp h32 hR hc
  go_enter Tryz.func7, Tryz.ntmps7
  go_wp2
  go_loop [33] (fun q => ∃ k : Nat, k ≤ m ∧ q = .int .i64 k) (fun q => m - (intOf q).toNat)
  case atStart => exact ⟨0, Nat.zero_le _, rfl⟩
  case round =>
    obtain ⟨k, hkm, rfl⟩ := hrel
    by_cases hlt : k < m
    · have hlt2 : (k : Int) < (m : Int) := by omega
      obtain ⟨b, off, A1, n1, c1, l, rfl, hb, hkl, hc, hn1, hr1⟩ := HPB.out.at_ hlt
      have hl := hr1.len
      rw [H32.out l (List.mem_of_getElem? hkl.out)] at hl
      subst hl
      clear hr1 hkl
      go_wp2
      go_round
      case rel => exact ⟨k + 1, by omega, by go_num⟩
      case measure => simp [intOf]; omega
    · obtain rfl : k = m := by omega
      have hlt2 : ¬ (k : Int) < (k : Int) := by omega
      have i0 : (0 : Int) ≤ (k : Int) := by omega
      go_wp2_with (first
        | (go_at_call 14; (refine (HPUB.out _ (by exact HX.out)).mono ?_); rintro e w1 ⟨rfl, hB1⟩; have HE1 := Lib.hid hB1; clear hB1)
        | (refine wpList_store_all rfl 26 (.tmp 8) (.tmp 44) rfl w1.heap.size (u8s (pubB xs)) (by rfl) (by rfl) 26 o32 (by exact Blk.new' rfl rfl) (by rw [HNL.out]; exact hd24) (u8s_one _) (by rw [HNL.out]; rfl) ?_
           intro w2 hb2 ho2
           have HE2 := Lib.hid (ho2.below (HE1.out.alloc HE1.out.size _) HE1.out.size (Nat.le_trans HE1.out.size (by simp)))
           have HC2 := Lib.hid hb2
           clear hb2 ho2)
        | (at_make; refine wpList_makeZ rfl (.const (.int .i64 0)) (.tmp 50) 30 rfl 43 (.agg (u8s (List.replicate 192 0)).toArray) 192 192 (.int .u8 0) Tryz.underlying30 iSp (by rw [← u8s_rep]; rfl) (by omega) .i64 .i64 0 (k : Int) (by rfl) (by rfl) 0 k rfl rfl (by omega) (by omega) (by omega) ?_
           intro w3 hb3 hg3 hs3
           have HE3 := Lib.hid (HE2.out.trans ((grown_below hg3).mono HE2.out.size))
           have HC3 := Lib.hid (HC2.out.below (grown_below hg3) HC2.out.lt)
           have HO3 : Hid (w3.ownsRow (w1.heap.size + 1) 43 192 (.slice (some ⟨w2.heap.size, 0, none⟩) 0 k) 0 []) := by
             have := own_of_blk (base := w1.heap.size + 1) hb3 (by have := HC2.out.lt; omega) 0 k 192 (Nat.zero_le _) (by rw [rep_length]) (by omega)
             rwa [Nat.zero_mul, List.take_zero] at this
           have hs3a := Nat.le_of_eq hs3.symm
           clear hb3 hg3 hs3))
      have HG2 := Lib.hid HE1.out.size
      have HT4 : Hid (Two (w1.heap.size + 1) w1.heap.size 43 (w3.alloc (.cells #[.slice A 32 c] 23)) (.slice (some ⟨w2.heap.size, 0, none⟩) 0 k) (.slice (some ⟨w3.heap.size, 0, none⟩) 1 1) 0 1 ([].flatMap Sp.cells) [xs]) := by
        refine ⟨[.slice A 32 c], own_below HO3.out ((Below.refl _ _).alloc (Nat.le_refl _) _), own_of_blk (Blk.new w3 23 [.slice A 32 c]) (by have := HC2.out.lt; omega) 1 1 1 (Nat.le_refl _) rfl (by omega), rfl, fun b hb hb2 => ?_, fun i v hv => ?_⟩
        · simp only [Value.ownBlock] at hb hb2
          injection hb2 with hb2
          injection hb with hb
          omega
        · have hi : i = 0 := by
            have := (List.getElem?_eq_some_iff.1 hv).1
            simpa using this
          subst hi
          simp only [List.getElem?_cons_zero, Option.some.injEq] at hv
          subst hv
          refine ⟨xs, A, c, rfl, HC.out, rfl, (HX.out.below HE3.out).alloc _, fun ad e => ?_⟩
          have h1 := HAL.out ad e
          have h2 := HC2.out.lt
          have h3 := HG2.out
          refine ⟨by simp; omega, by omega, fun e2 => ?_, fun e2 => ?_⟩ <;> (simp only [Value.ownBlock] at e2; injection e2 with e2; omega)
      have HC4 : Hid (Blk (w3.alloc (.cells #[.slice A 32 c] 23)) w1.heap.size 26 (u8s (pubB xs))) := HC3.out.alloc _
      have HE4 : Hid (Below w.heap.size w (w3.alloc (.cells #[.slice A 32 c] 23))) := HE3.out.alloc HE3.out.size _
      have HSC0 : Hid (∀ s ∈ [xs], s.length = 32) := by intro s hs; simp at hs; rw [hs]; exact HXL.out
      clear HE1 HE2 HC2 HO3 HE3 HC3 hs3a HPUB
      go_loopg [10, 11, 56] k (fun kk q10 q11 q wr => ∃ (j : Nat) (acc : List Sp) (sc : List (List UInt8)) (al : List UInt8) (A10 A11 : Option Addr) (c10 c11 : Nat), j < k ∧ kk = k - j ∧ q = .int .i64 j ∧ q10 = .slice A10 j c10 ∧ q11 = .slice A11 (j + 1) c11 ∧ j ≤ c10 ∧ Hid (sch acc sc al (pubs.drop j) = R) ∧ Hid (acc.length = j) ∧ Hid (Good al) ∧ Hid (∀ s ∈ sc, s.length = 32) ∧ Hid (Two (w1.heap.size + 1) w1.heap.size 43 wr (.slice A10 j c10) (.slice A11 (j + 1) c11) j (j + 1) (acc.flatMap Sp.cells) sc) ∧ Hid (Blk wr w1.heap.size 26 (u8s al)) ∧ Hid (Below w.heap.size w wr))
      case atStart => exact ⟨0, [], [xs], pubB xs, _, _, _, _, by omega, rfl, rfl, rfl, rfl, Nat.zero_le _, by rw [List.drop_zero]; exact HRR, rfl, HGD, HSC0, HT4, HC4, HE4⟩
      case round =>
        clear HC4 HE4 HT4 HSC0 HGD HNL HRR
        obtain ⟨j, acc, sc, al, A10, A11, c10, c11, hjk, hgk, rfl, rfl, rfl, hj10, HV, HAC, HGA, HSC, HT, HC5, HE5⟩ := hrel
        have HGK := Lib.hid hgk
        clear hgk
        have hlt4 : (j : Int) < (k : Int) := by omega
        obtain ⟨b, off, A1, n1, c1, l, rfl, hb, hkl, hc, hn1, hr1⟩ := (HPB.out.below HE5.out).at_ hjk
        have hl := hr1.len
        rw [H32.out l (List.mem_of_getElem? hkl.out)] at hl
        subst hl
        have HR1 := Lib.hid hr1
        have hdr : pubs.drop j = l :: pubs.drop (j + 1) := by
          obtain ⟨hj, he⟩ := List.getElem?_eq_some_iff.1 hkl.out
          rw [List.drop_eq_getElem_cons hj, he]
        have hv := HV.out
        rw [hdr, sch] at hv
        have hcl := chV_len sc (nrm l) (nrm_len l)
        obtain ⟨V, hV⟩ : ∃ V, V = chV (nrm l) sc := ⟨_, rfl⟩
        have HCH : Hid (∀ W, Rd W A1 32 (u8s l) → RdB W A11 (j + 1) sc → Calls Tryz.prog 15 #[.slice A1 32 c1, .slice A11 (j + 1) c11] W fun e w' => e = .returned (.tuple #[.agg (u8s V.1).toArray, .int .i64 (V.2 : Int)]) ∧ Below W.heap.size W w') := fun W h1 h2 => by
          rw [hV]
          exact chain_yes A1 A11 c1 (j + 1) c11 l sc W h1 h2 HSC.out (by omega)
        rw [← hV] at hv hcl
        have HVL : Hid ((u8s V.1).length = 32) := by show _ = _; rw [u8s_length, hcl]
        have HVV := Lib.hid hv
        have HVC := Lib.hid hcl
        have HAL5 : Hid ((u8s al).length = 32) := by show _ = _; rw [u8s_length, HGA.out.len]
        clear hr1 hkl hdr hv hcl hV HV
        by_cases he : V.2 = 0
        · have hv := HVV.out
          rw [if_pos he] at hv
          have hei : (V.2 : Int) = 0 := by rw [he]; rfl
          generalize (V.2 : Int) = VE at *
          subst hei
          have hok := stp_ok HGA.out.len HVC.out
          have HSO : Hid (∀ W, Calls Tryz.prog 16 #[.agg (u8s al).toArray, .agg (u8s V.1).toArray] W fun e w' => e = .returned (.tuple #[.agg (stp al V.1).cells.toArray, .int .i64 0]) ∧ Below W.heap.size W w') := fun W => stepof_any al V.1 HGA.out.len HVC.out W
          have HNC : Hid (acc.flatMap Sp.cells ++ (stp al V.1).cells = (acc ++ [stp al V.1]).flatMap Sp.cells) := by show _ = _; simp
          have HSL : Hid ((stp al V.1).cells.length = 192) := Sp.cells_len hok
          have HS1 : Hid (∀ v ∈ (stp al V.1).cells, v.oneCell' = true) := Sp.cells_one _
          have HI2 : Hid ((Tryz.prog.info? 43).map (fun i => ((i.zero.map (fun z => z.cells.size)), i.size)) = some (some (stp al V.1).cells.length, (stp al V.1).cells.length)) := by rw [HSL.out]; exact z1sp
          have HNX : Hid (∀ W, Calls Tryz.prog 17 #[.agg (stp al V.1).cells.toArray] W fun e w' => e = .returned (.tuple #[.agg (u8s (mB (stp al V.1).blind al)).toArray, .int .i64 0]) ∧ Below W.heap.size W w') := fun W => by
            have h5 := next_any (stp al V.1) hok W
            have h6 : mE (stp al V.1).blind (stp al V.1).alpha = 0 := HGA.out.mE hok.2.2.2.1
            rw [h6] at h5
            exact h5
          have HGN : Hid (Good (mB (stp al V.1).blind al)) := HGA.out.mB hok.2.2.2.1
          have HBL : Hid ((stp al V.1).blind.length = 32) := hok.2.2.2.1
          have HLB : Hid (∀ W G, Blk W G 43 (stp al V.1).cells → (ldAt 26 (.pointer (some ⟨G, 96, none⟩))).run Tryz.prog W = .ok (.agg (u8s (stp al V.1).blind).toArray) W) := fun W G hb =>
            ldAt_run hb _ 96 (u8s (stp al V.1).blind) (by rw [u8s_length, hok.2.2.2.1, Sp.cells, u8s_drop, u8s_take, Sp.at_blind hok]) _ Tryz.underlying26 rfl (by rw [u8s_length, hok.2.2.2.1]; exact hd24)
          have hv' : sch (acc ++ [stp al V.1]) (sc ++ [(stp al V.1).blind]) (mB (stp al V.1).blind al) (pubs.drop (j + 1)) = R := hv
          have HVN := Lib.hid hv'
          clear hv hv' he HVV hok
          generalize (stp al V.1).blind = BL at *
          obtain ⟨ST, hST⟩ : ∃ ST, ST = stp al V.1 := ⟨_, rfl⟩
          rw [← hST] at HSO HNC HSL HS1 HI2 HNX HLB HVN
          obtain ⟨CS, hCS⟩ : ∃ CS, CS = ST.cells := ⟨_, rfl⟩
          rw [← hCS] at HSO HNC HSL HS1 HI2 HNX HLB
          generalize mB BL al = NA at *
          clear hST hCS
          by_cases hlast : j + 1 = k
          · have hla : (j : Int) + 1 = (k : Int) := by omega
            have hv := HVN.out
            rw [List.drop_eq_nil_of_le (by rw [HML.out]; omega), sch] at hv
            have HRV : Hid (R.1 = acc ++ [ST] ∧ R.2 = 0) := by show _ ∧ _; rw [← hv]; exact ⟨rfl, rfl⟩
            clear hv hlast
            go_wp2_with (first
            |             (go_at_call 15; (refine (HCH.out _ (by exact HR1.out) (by exact HT.out.rdB)).mono ?_); rintro e w6 ⟨rfl, hB6⟩; have HE6 := qtr HE5 hB6; have HT6 := Lib.hid (HT.out.below hB6); have HC6 := qbl HC5 hB6; have HS6 := Lib.hid hB6.size; clear hB6)
            | (refine wpList_store_all rfl 26 (.tmp 14) (.tmp 65) rfl w6.heap.size (u8s V.1) (by rfl) (by rfl) 26 o32 (by exact Blk.new' rfl rfl) (by rw [HVL.out]; exact hd24) (u8s_one _) (by rw [HVL.out]; rfl) ?_
               intro w7 hb7 ho7
               have hB7 : Below w6.heap.size w6 w7 := ho7.below ((Below.refl _ _).alloc (Nat.le_refl _) _) (Nat.le_refl _) (by simp)
               have HE7 := qtr HE6 hB7
               have HT7 := Lib.hid (HT6.out.below hB7)
               have HC7 := qbl HC6 hB7
               have HS7 := Lib.hid (Nat.le_trans HS6.out hB7.size)
               have l1 := b32_ld HC7.out HAL5.out
               have l2 := b32_ld hb7 HVL.out
               clear hb7 ho7 hB7)
            | (go_at_call 16; (refine (HSO.out _).mono ?_); rintro e w8 ⟨rfl, hB8⟩; have HE8 := qtr HE7 hB8; have HT8 := Lib.hid (HT7.out.below hB8); have HC8 := qbl HC7 hB8; have HS8 := Lib.hid (Nat.le_trans HS7.out hB8.size); clear hB8 l1 l2)
            | (refine wpList_store_all rfl 43 (.tmp 16) (.tmp 74) rfl w8.heap.size CS (by rfl) (by rfl) 43 (u8s (List.replicate 192 0)) (by exact Blk.new' rfl zcSp) (by rw [HSL.out]; exact hd69) HS1.out (by rw [HSL.out]; rfl) ?_
               intro w9 hb9 ho9
               have hB9 : Below w8.heap.size w8 w9 := ho9.below ((Below.refl _ _).alloc (Nat.le_refl _) _) (Nat.le_refl _) (by simp)
               have HE9 := qtr HE8 hB9
               have HT9 := Lib.hid (HT8.out.below hB9)
               have HC9 := qbl HC8 hB9
               have HK9 := Lib.hid hb9
               have l3 := sp_ld hb9 HSL.out
               clear hb9 ho9 hB9)
            | (refine wpList_slice1 rfl 30 43 (.tmp 80) rfl CS (by rfl) Tryz.underlying30 HI2.out (by rw [HSL.out]; omega) (by rw [HSL.out]; omega) ?_)
            | (at_builtin; refine wpList_app rfl (.tmp 79) (.tmp 81) 30 rfl (w1.heap.size + 1) 43 192 192 Tryz.underlying30 eSpz (.slice A10 j c10) j (acc.flatMap Sp.cells) (by rfl) (by exact own_below HT9.out.own10 ((Below.refl _ _).alloc (Nat.le_refl _) _)) (some ⟨w9.heap.size, 0, none⟩) 1 1 CS (by rfl) (by exact RdS.new w9 _ CS 192 HSL.out) HS1.out (by omega) (by omega) (by have := HC9.out.lt; simp; omega) ?_
               intro A12 c12 w12 hown12 hc12 hg12 hat12
               have ho10 := HT9.out.own10
               have hlt10 := HT.out.own10
               have HE12 := Lib.hid ((HE9.out.alloc HE9.out.size _).grown hg12 (Nat.le_trans HE9.out.size (by simp)) (fun k hk => by have h1 := (ho10.lt k hk).1; have h2 := HG2.out; omega))
               rw [HNC.out] at hown12
               have HT12 := Lib.hid ((HT9.out.below ((Below.refl _ _).alloc (Nat.le_refl _) _)).app10 hown12 hg12 (by simpa using hat12))
               have HC12 := Lib.hid ((HC9.out.alloc _).grown hg12 (fun e => by have h1 := (ho10.lt _ e.symm).1; omega))
               have HK12 := Lib.hid ((HK9.out.alloc _).grown hg12 (fun e => by have h1 := (hlt10.lt _ e.symm).2; have h2 := HS8.out; omega))
               have HOW12 := Lib.hid hown12
               have HC12' := Lib.hid hc12
               clear hown12 hc12 hg12 hat12 ho10 hlt10 l3))
            go_ret2
            exact ⟨A12, j + 1, c12, by rw [HRV.out.2]; rfl, HC12'.out, by rw [HRV.out.1]; exact RdS.ofOwn2 HOW12.out, by rw [HRV.out.1, List.length_append, HAC.out]; rfl, HE12.out⟩
          · skip
            have hla : ¬ (j : Int) + 1 = (k : Int) := by omega
            have HBLL : Hid ((u8s BL).length = 32) := by show _ = _; rw [u8s_length, HBL.out]
            have HNAL : Hid ((u8s NA).length = 32) := by show _ = _; rw [u8s_length, HGN.out.len]
            have HAC2 : Hid ((acc ++ [ST]).length = j + 1) := by show _ = _; rw [List.length_append, HAC.out]; rfl
            have HSC2 : Hid (∀ s ∈ sc ++ [BL], s.length = 32) := by
              intro s hs
              rcases List.mem_append.1 hs with h | h
              · exact HSC.out s h
              · simp at h; rw [h]; exact HBL.out
            have HLS := Lib.hid hlast
            clear hlast
            go_wp2_with (first
            |             (go_at_call 15; (refine (HCH.out _ (by exact HR1.out) (by exact HT.out.rdB)).mono ?_); rintro e w6 ⟨rfl, hB6⟩; have HE6 := qtr HE5 hB6; have HT6 := Lib.hid (HT.out.below hB6); have HC6 := qbl HC5 hB6; have HS6 := Lib.hid hB6.size; clear hB6)
            | (refine wpList_store_all rfl 26 (.tmp 14) (.tmp 65) rfl w6.heap.size (u8s V.1) (by rfl) (by rfl) 26 o32 (by exact Blk.new' rfl rfl) (by rw [HVL.out]; exact hd24) (u8s_one _) (by rw [HVL.out]; rfl) ?_
               intro w7 hb7 ho7
               have hB7 : Below w6.heap.size w6 w7 := ho7.below ((Below.refl _ _).alloc (Nat.le_refl _) _) (Nat.le_refl _) (by simp)
               have HE7 := qtr HE6 hB7
               have HT7 := Lib.hid (HT6.out.below hB7)
               have HC7 := qbl HC6 hB7
               have HS7 := Lib.hid (Nat.le_trans HS6.out hB7.size)
               have l1 := b32_ld HC7.out HAL5.out
               have l2 := b32_ld hb7 HVL.out
               clear hb7 ho7 hB7)
            | (go_at_call 16; (refine (HSO.out _).mono ?_); rintro e w8 ⟨rfl, hB8⟩; have HE8 := qtr HE7 hB8; have HT8 := Lib.hid (HT7.out.below hB8); have HC8 := qbl HC7 hB8; have HS8 := Lib.hid (Nat.le_trans HS7.out hB8.size); clear hB8 l1 l2)
            | (refine wpList_store_all rfl 43 (.tmp 16) (.tmp 74) rfl w8.heap.size CS (by rfl) (by rfl) 43 (u8s (List.replicate 192 0)) (by exact Blk.new' rfl zcSp) (by rw [HSL.out]; exact hd69) HS1.out (by rw [HSL.out]; rfl) ?_
               intro w9 hb9 ho9
               have hB9 : Below w8.heap.size w8 w9 := ho9.below ((Below.refl _ _).alloc (Nat.le_refl _) _) (Nat.le_refl _) (by simp)
               have HE9 := qtr HE8 hB9
               have HT9 := Lib.hid (HT8.out.below hB9)
               have HC9 := qbl HC8 hB9
               have HK9 := Lib.hid hb9
               have l3 := sp_ld hb9 HSL.out
               clear hb9 ho9 hB9)
            | (refine wpList_slice1 rfl 30 43 (.tmp 80) rfl CS (by rfl) Tryz.underlying30 HI2.out (by rw [HSL.out]; omega) (by rw [HSL.out]; omega) ?_)
            | (at_builtin; refine wpList_app rfl (.tmp 79) (.tmp 81) 30 rfl (w1.heap.size + 1) 43 192 192 Tryz.underlying30 eSpz (.slice A10 j c10) j (acc.flatMap Sp.cells) (by rfl) (by exact own_below HT9.out.own10 ((Below.refl _ _).alloc (Nat.le_refl _) _)) (some ⟨w9.heap.size, 0, none⟩) 1 1 CS (by rfl) (by exact RdS.new w9 _ CS 192 HSL.out) HS1.out (by omega) (by omega) (by have := HC9.out.lt; simp; omega) ?_
               intro A12 c12 w12 hown12 hc12 hg12 hat12
               have ho10 := HT9.out.own10
               have hlt10 := HT.out.own10
               have HE12 := Lib.hid ((HE9.out.alloc HE9.out.size _).grown hg12 (Nat.le_trans HE9.out.size (by simp)) (fun k hk => by have h1 := (ho10.lt k hk).1; have h2 := HG2.out; omega))
               rw [HNC.out] at hown12
               have HT12 := Lib.hid ((HT9.out.below ((Below.refl _ _).alloc (Nat.le_refl _) _)).app10 hown12 hg12 (by simpa using hat12))
               have HC12 := Lib.hid ((HC9.out.alloc _).grown hg12 (fun e => by have h1 := (ho10.lt _ e.symm).1; omega))
               have HK12 := Lib.hid ((HK9.out.alloc _).grown hg12 (fun e => by have h1 := (hlt10.lt _ e.symm).2; have h2 := HS8.out; omega))
               have HOW12 := Lib.hid hown12
               have HC12' := Lib.hid hc12
               have l4 := sp_ld HK12.out HSL.out
               clear hown12 hc12 hg12 hat12 ho10 hlt10 l3)
            | (go_at_call 17; (refine (HNX.out _).mono ?_); rintro e w13 ⟨rfl, hB13⟩; have HE13 := qtr HE12 hB13; have HT13 := Lib.hid (HT12.out.below hB13); have HC13 := qbl HC12 hB13; have HK13 := qbl HK12 hB13; clear hB13 l4
               obtain ⟨w14, hst8, ho14, hb14⟩ := st32 HC13.out HAL5.out HNAL.out (u8s_one _)
               have HE14 := Lib.hid (ho14.below HE13.out HG2.out HE13.out.size)
               have HT14 := Lib.hid (HT13.out.only ho14 (Nat.lt_succ_self _))
               have HK14 := Lib.hid (ho14.blk HK13.out (by have h1 := HS8.out; have h2 := HC5.out.lt; omega))
               have HC14 := Lib.hid hb14
               have l5 := HLB.out _ _ HK14.out
               clear hb14 ho14
               obtain ⟨w15, hst, ho15, hb15⟩ := st32 (show Blk (w14.alloc (.cells #[.int .u8 0, .int .u8 0, .int .u8 0, .int .u8 0, .int .u8 0, .int .u8 0, .int .u8 0, .int .u8 0, .int .u8 0, .int .u8 0, .int .u8 0, .int .u8 0, .int .u8 0, .int .u8 0, .int .u8 0, .int .u8 0, .int .u8 0, .int .u8 0, .int .u8 0, .int .u8 0, .int .u8 0, .int .u8 0, .int .u8 0, .int .u8 0, .int .u8 0, .int .u8 0, .int .u8 0, .int .u8 0, .int .u8 0, .int .u8 0, .int .u8 0, .int .u8 0] 26)) w14.heap.size 26 o32 from Blk.new' rfl rfl) rfl HBLL.out (u8s_one BL)
               have hB15 : Below w14.heap.size w14 w15 := ho15.below ((Below.refl _ _).alloc (Nat.le_refl _) _) (Nat.le_refl _) (by simp)
               have HE15 := qtr HE14 hB15
               have HT15 := Lib.hid (HT14.out.below hB15)
               have HC15 := qbl HC14 hB15
               have HR15 : Hid (Rd w15 (some ⟨w14.heap.size, 0, none⟩) 32 (u8s BL)) := by have h5 := hb15.rd 0 32 (by have := HBLL.out; omega); rwa [List.drop_zero, List.take_of_length_le (by have := HBLL.out; omega)] at h5
               obtain ⟨vs, htv⟩ := HT15.out.below ((Below.refl _ w15).alloc (Nat.le_refl _) (.cells #[.slice (some ⟨w14.heap.size, 0, none⟩) 32 32] 23))
               have HTV := Lib.hid htv
               have HAP := Lib.hid (HT14.out.fresh HC14.out.lt 0)
               clear hb15 ho15 hB15 htv)
            | (at_builtin; refine wpList_app rfl (.tmp 99) (.tmp 101) 24 rfl (w1.heap.size + 1) 23 1 24 Tryz.underlying24 eSl (.slice A11 (j + 1) c11) (j + 1) vs (by rfl) (by exact HTV.out.2.1) (some ⟨w15.heap.size, 0, none⟩) 1 1 [.slice (some ⟨w14.heap.size, 0, none⟩) 32 32] (by rfl) (by exact RdS.new w15 _ [.slice (some ⟨w14.heap.size, 0, none⟩) 32 32] 1 rfl) (by intro v hv; simp at hv; rw [hv]; rfl) (by omega) (by omega) (by have := HC15.out.lt; simp; omega) ?_
               intro A17 c17 w17 hown17 hc17 hg17 hat17
               have HE17 := Lib.hid ((HE15.out.alloc HE15.out.size _).grown hg17 (Nat.le_trans HE15.out.size (by simp)) (fun k hk => by have h1 := (HTV.out.2.1.lt k hk).1; have h2 := HG2.out; omega))
               have HC17 := Lib.hid ((HC15.out.alloc _).grown hg17 (fun e => by have h1 := (HTV.out.2.1.lt _ e.symm).1; omega))
               have HT17 : Hid (Two (w1.heap.size + 1) w1.heap.size 43 w17 (.slice A12 (j + 1) c12) (.slice A17 (j + 1 + 1) c17) (j + 1) (j + 1 + 1) ((acc ++ [ST]).flatMap Sp.cells) (sc ++ [BL])) := Two.app11 HTV.out hown17 hg17 (by simpa using hat17) (Nat.le_refl _) (HR15.out.alloc _) HAP.out
               clear hown17 hc17 hg17 hat17))
            go_roundg (k - (j + 1))
            case measure => have := HGK.out; omega
            case rel => exact ⟨j + 1, acc ++ [ST], sc ++ [BL], NA, A12, A17, c12, c17, by have := HLS.out; omega, rfl, by go_num, rfl, rfl, HC12'.out, HVN, HAC2, HGN, HSC2, HT17, HC17, HE17⟩
        · have hei : ¬ (V.2 : Int) = 0 := by omega
          have hv := HVV.out
          rw [if_neg he] at hv
          have HRL : Hid (R.1 = []) := by show _ = _; rw [← hv]
          have HRE : Hid ((R.2 : Int) = (V.2 : Int)) := by show _ = _; rw [← hv]
          clear he hv HVV
          go_wp2_with (first
            | (go_at_call 15; (refine (HCH.out _ (by exact HR1.out) (by exact HT.out.rdB)).mono ?_); rintro e w6 ⟨rfl, hB6⟩; have HE6 := qtr HE5 hB6; clear hB6)
            | (refine wpList_store_all rfl 26 (.tmp 14) (.tmp 65) rfl w6.heap.size (u8s V.1) (by rfl) (by rfl) 26 o32 (by exact Blk.new' rfl rfl) (by rw [HVL.out]; exact hd24) (u8s_one _) (by rw [HVL.out]; rfl) ?_
               intro w7 hb7 ho7
               have HE7 := Lib.hid (ho7.below (HE6.out.alloc HE6.out.size _) HE6.out.size (Nat.le_trans HE6.out.size (by simp)))))
          go_ret2
          exact ⟨none, 0, 0, by rw [HRE.out]; rfl, Nat.le_refl _, by rw [HRL.out]; exact ⟨rfl, fun h => absurd h (by omega)⟩, by rw [HRL.out]; rfl, HE7.out⟩
end Go.Proofs.YtlbnibmcflmohaaGreat
namespace Go.Proofs.YtlbnibmcflmohaaGreat
open Go.RowKit
def OneV (B : Nat) (w : World) (v : Value) (n : Nat) (sc : List (List UInt8)) (vs : List Value) : Prop :=
  w.ownsRow B 23 1 v n vs ∧ sc.length = vs.length ∧ ∀ (i : Nat) (u : Value), vs[i]? = some u → ∃ l A c, u = .slice A 32 c ∧ 32 ≤ c ∧ sc[i]? = some l ∧ Rd w A 32 (u8s l) ∧ ∀ ad, A = some ad → v.ownBlock ≠ some ad.block
theorem OneV.nil (B : Nat) (w : World) : OneV B w (.slice none 0 0) 0 [] [] := ⟨World.ownsRow_nil _ _ _ _, rfl, fun i u hu => by simp at hu⟩
theorem OneV.below {B n : Nat} {w w' : World} {v : Value} {sc : List (List UInt8)} {vs : List Value} (h : OneV B w v n sc vs) (hB : Below w.heap.size w w') : OneV B w' v n sc vs := by
  refine ⟨own_below h.1 hB, h.2.1, fun i u hu => ?_⟩
  obtain ⟨l, A, c, e, hc, hl, hr, ha⟩ := h.2.2 i u hu
  exact ⟨l, A, c, e, hc, hl, hr.below hB, ha⟩
theorem OneV.rdB {B n c : Nat} {w : World} {A : Option Addr} {sc : List (List UInt8)} {vs : List Value} (h : OneV B w (.slice A n c) n sc vs) : RdB w A n sc := by
  have hr := Rd.of_own h.1
  refine ⟨vs, hr, by rw [h.2.1, hr.1], fun i v hv => ?_⟩
  obtain ⟨l, A, c, e, hc, hl, hr, _⟩ := h.2.2 i v hv
  exact ⟨l, hl, A, 32, c, e, hc, hr⟩
theorem OneV.app {B n n' c : Nat} {w w' : World} {v v' : Value} {A : Option Addr} {sc : List (List UInt8)} {vs : List Value} {l : List UInt8} (h : OneV B w v n sc vs) (ho : w'.ownsRow B 23 1 v' n' (vs ++ [.slice A 32 c])) (hg : w.grownBy w' v.ownBlock) (hat : v'.ownBlock = v.ownBlock ∨ v'.ownBlock = some w.heap.size)
    (hc : 32 ≤ c) (hr : Rd w A 32 (u8s l)) (ha : ∀ ad, A = some ad → v.ownBlock ≠ some ad.block) : OneV B w' v' n' (sc ++ [l]) (vs ++ [.slice A 32 c]) := by
  have hne : ∀ ad : Addr, ad.block < w.heap.size → v.ownBlock ≠ some ad.block → v'.ownBlock ≠ some ad.block := fun ad a1 a4 e3 => by
    rcases hat with e | e
    · exact a4 (e ▸ e3)
    · rw [e] at e3
      injection e3 with e3
      omega
  refine ⟨ho, by simp [h.2.1], fun i u hu => ?_⟩
  rcases Nat.lt_or_ge i vs.length with hi | hi
  · rw [List.getElem?_append_left hi] at hu
    obtain ⟨l', A', c', e, hc', hl', hr', ha'⟩ := h.2.2 i u hu
    exact ⟨l', A', c', e, hc', by rw [List.getElem?_append_left (by rw [h.2.1]; exact hi)]; exact hl', hr'.grownR hg ha', fun ad e2 => hne ad (hr'.blk_lt (by omega) ad e2) (ha' ad e2)⟩
  · rw [List.getElem?_append_right hi] at hu
    have hi0 : i - vs.length = 0 := by
      have := (List.getElem?_eq_some_iff.1 hu).1
      simp at this
      omega
    rw [hi0] at hu
    simp only [List.getElem?_cons_zero, Option.some.injEq] at hu
    subst hu
    exact ⟨l, A, c, rfl, hc, by rw [List.getElem?_append_right (by rw [h.2.1]; exact hi), h.2.1, hi0]; rfl, hr.grownR hg ha, fun ad e2 => hne ad (hr.blk_lt (by omega) ad e2) (ha ad e2)⟩
end Go.Proofs.YtlbnibmcflmohaaGreat
