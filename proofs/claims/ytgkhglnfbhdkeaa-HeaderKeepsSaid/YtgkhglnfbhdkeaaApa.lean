/- shallotref01.mark and Apart. -/
import Derived.Test.YtgkhglnfbhdkeaaApt
import Derived.Test.YtgkhglnfbhdkeaaDec2
import Derived.Deep.DeepCutAuto
namespace Go.Proofs.Ytgkhglnfbhdkeaa
open Go.RowKit

set_option maxHeartbeats 1000000 in
theorem mark_any (i j : Nat) (hi : i ≤ 1000) (hj : j ≤ 281474976710656) (w : World) : Calls Try.prog 55 #[.int .i64 (i : Int), .int .i64 (j : Int)] w fun e w' => e = .returned (.int .u8 (mrk i j).toNat) ∧ w = w' := by
  have h1 : (0 : Int) ≤ (i : Int) := by omega
  have h2 : (i : Int) ≤ 1000 := by omega
  have h3 : (0 : Int) ≤ (j : Int) := by omega
  have h4 : (j : Int) ≤ 281474976710656 := by omega
  have HV : Hid ((((mrk i j).toNat : Nat) : Int) = (17 * (i : Int) + 3 * (j : Int) + 1) % 256) := by show _ = _; unfold mrk; rw [UInt8.toNat_ofNat']; omega
  go_enter Try.func55, Try.ntmps55
  go_wp2_with fail
  go_ret
  exact ⟨by rw [HV.out]; rfl, rfl⟩

theorem mark_q (i j : Nat) (hi : i ≤ 1000) (hj : j ≤ 281474976710656) (w : World) (n : Nat) : Calls Try.prog 55 #[.int .i64 (i : Int), .int .i64 (j : Int)] (w.drewN n) fun e w'' => e = .returned (.int .u8 (mrk i j).toNat) ∧ ∃ m, w'' = w.drewN m :=
  (mark_any i j hi hj (w.drewN n)).mono fun _ _ ⟨h1, h2⟩ => ⟨h1, n, h2.symm⟩
/-- the lists: what each of them bears -/
structure ST (base : Nat) (w0 : World) (L k : Nat) (vs : List Value) (ns : Nat → Nat) (w : World) (O : Own) (p : Nat → Nat) : Prop where
  ms : MS base w0 w O
  hi : base ≤ w.heap.size
  lst : Blk w L 22 vs
  no : O L = none
  each : ∀ i, i < k → ∃ A c, vs[i]? = some (.slice A (ns i) c) ∧ Tr w O i (.slice A (ns i) c) (ns i) (p i)
section
variable {base : Nat} {w0 : World} {L k : Nat} {vs : List Value} {ns : Nat → Nat} {w : World} {O : Own} {p : Nat → Nat}
theorem ST.step (h : ST base w0 L k vs ns w O p) {w' : World} {O' : Own} (hs : MStep w O w' O') (hm : MS base w0 w' O') : ST base w0 L k vs ns w' O' p :=
  ⟨hm, Nat.le_trans h.hi hs.size, (hs.idle L h.lst.lt h.no).1.trans h.lst, (hs.idle L h.lst.lt h.no).2, fun i hi => by
    obtain ⟨A, c, e, ht⟩ := h.each i hi
    exact ⟨A, c, e, hs.keep _ _ _ _ ht⟩⟩
theorem MS.step {w' : World} {O' : Own} (h : MS base w0 w O) (hb : Below base w0 w') (hO : O' = O) (hs : w.heap.size ≤ w'.heap.size) : MS base w0 w' O' := by
  subst hO
  exact ⟨fun g hg => h.free g (by omega), h.lo, hb⟩
theorem ST.drew (h : ST base w0 L k vs ns w O p) : ST base w0 L k vs ns w.drew O p := h.step (MStep.drew w O) (h.ms.step h.ms.below.drew rfl (Nat.le_refl _))
theorem ST.drewN (h : ST base w0 L k vs ns w O p) (q : Nat) : ST base w0 L k vs ns (w.drewN q) O p := h.step (MStep.drewN w O q) (h.ms.step (below_drewN h.ms.below q) rfl (Nat.le_refl _))
theorem ST.alloc (h : ST base w0 L k vs ns w O p) (o : Obj) : ST base w0 L k vs ns (w.alloc o) O p := h.step (MStep.alloc w O o) (h.ms.alloc h.hi o)
theorem ST.at_ (h : ST base w0 L k vs ns w O p) {i : Nat} (hi : i < k) : ∃ A c, w.cell? ⟨L, i, none⟩ = some (.slice A (ns i) c) ∧ Tr w O i (.slice A (ns i) c) (ns i) (p i) := by
  obtain ⟨A, c, e, ht⟩ := h.each i hi
  exact ⟨A, c, (h.lst.cell i).trans e, ht⟩
theorem Tr.less {i n p q : Nat} {v : Value} (h : Tr w O i v n p) (hq : q ≤ p) : Tr w O i v n q := by
  obtain ⟨hp, h⟩ := h
  refine ⟨by omega, ?_⟩
  rcases h with h | ⟨g, cap, cur, rfl, hO, hb, hn, hc, hm, hby, hmk⟩
  · exact .inl h
  · exact .inr ⟨g, cap, cur, rfl, hO, hb, hn, hc, hm, hby, fun j hj => hmk j (by omega)⟩
/-- place j of list i gets its mark -/
theorem ST.set (h : ST base w0 L k vs ns w O p) {i j g c : Nat} (hi : i < k) (hc : w.cell? ⟨L, i, none⟩ = some (.slice (some ⟨g, 0, none⟩) (ns i) c)) (hj : j < ns i) (hp : p i = j) :
    ST base w0 L k vs ns (w.setCell ⟨g, j, none⟩ (.int .u8 (mrk i j).toNat)) O (fun x => if x = i then j + 1 else p x) := by
  obtain ⟨A, c', e, ht⟩ := h.at_ hi
  rw [hc] at e
  injection e with e
  injection e with e1 _ e2
  subst e1
  subst e2
  obtain ⟨h1, h2⟩ := ht.set hj
  have hsz : (w.setCell ⟨g, j, none⟩ (u8 (mrk i j))).heap.size = w.heap.size := by simp [World.setCell]
  have hgO : O g = some i := by
    rcases ht.form with ⟨h, _⟩ | ⟨g', cap, hv, hO, _⟩
    · cases h
    · injection hv with e1 _ _
      injection e1 with e1
      injection e1 with e1
      rw [e1]
      exact hO
  have h3 := h.step h1 (h.ms.step (h.ms.below.setCell (p := ⟨g, j, none⟩) (h.ms.lo g i hgO) _) rfl (Nat.le_of_eq hsz.symm))
  refine ⟨h3.ms, h3.hi, h3.lst, h3.no, fun x hx => ?_⟩
  obtain ⟨A', c', e', ht'⟩ := h3.each x hx
  by_cases hxi : x = i
  · subst hxi
    refine ⟨A', c', e', ?_⟩
    rw [if_pos rfl]
    have e3 := (h.lst.cell x).symm.trans hc
    rw [e'] at e3
    injection e3 with e3
    rw [e3]
    have h4 := h2 hp.symm
    rw [hp] at h4
    exact h4
  · exact ⟨A', c', e', by rw [if_neg hxi]; exact ht'⟩
theorem ST.eq (h : ST base w0 L k vs ns w O p) {q : Nat → Nat} (hq : ∀ i, i < k → p i = q i) : ST base w0 L k vs ns w O q :=
  ⟨h.ms, h.hi, h.lst, h.no, fun i hi => by rw [← hq i hi]; exact h.each i hi⟩
end
/-- how many bytes the lists of grown ones have -/
def lenG (ns : Nat → Nat) (k m : Nat) : Nat := if m < k then ns m + 16 else ns (m - k) + 40
/-- the list of the grown ones -/
structure GS (base : Nat) (L k : Nat) (ns : Nat → Nat) (w : World) (O : Own) (N : Nat) (gv : Value) (ts : List Value) : Prop where
  own : w.ownsRow base 22 1 gv N ts
  no : ∀ g, gv.ownBlock = some g → O g = none ∧ g ≠ L
  each : ∀ m, m < N → ∃ A c, ts[m]? = some (.slice A (lenG ns k m) c) ∧ Tr w O (m % k) (.slice A (lenG ns k m) c) (lenG ns k m) (lenG ns k m)
section
variable {base : Nat} {w0 : World} {L k : Nat} {vs : List Value} {ns : Nat → Nat} {w w' : World} {O O' : Own} {p : Nat → Nat} {N : Nat} {gv : Value} {ts : List Value}
theorem GS.step (h : GS base L k ns w O N gv ts) (hs : MStep w O w' O') : GS base L k ns w' O' N gv ts := by
  refine ⟨?_, fun g hg => ?_, fun m hm => ?_⟩
  · obtain ⟨h1, h2⟩ := h.own
    refine ⟨h1, ?_⟩
    rcases h2 with h2 | ⟨g, cap, cur, hv, hb, hg, r⟩
    · exact .inl h2
    · exact .inr ⟨g, cap, cur, hv, hb, ((hs.idle g (Array.getElem?_eq_some_iff.1 hg).1 (h.no g (by rw [hv]; rfl)).1).1).trans hg, r⟩
  · exact ⟨(hs.idle g (h.own.lt g hg).2 (h.no g hg).1).2, (h.no g hg).2⟩
  · obtain ⟨A, c, e, ht⟩ := h.each m hm
    exact ⟨A, c, e, hs.keep _ _ _ _ ht⟩
/-- a block that nobody owns has been written to -/
theorem Tr.grown {i n q : Nat} {v : Value} (h : Tr w O i v n q) {row : Option Nat} (hg : w.grownBy w' row) (hr : ∀ b, row = some b → O b = none) : Tr w' O i v n q := by
  obtain ⟨hp, h⟩ := h
  refine ⟨hp, ?_⟩
  rcases h with h | ⟨g, cap, cur, rfl, hO, hb, r⟩
  · exact .inl h
  · exact .inr ⟨g, cap, cur, rfl, hO, hb.grown hg (fun e => by have := hr g e.symm; rw [hO] at this; cases this), r⟩
theorem ST.grown (h : ST base w0 L k vs ns w O p) {row : Option Nat} (hg : w.grownBy w' row) (hr : ∀ b, row = some b → O b = none ∧ b ≠ L ∧ base ≤ b) : ST base w0 L k vs ns w' O p :=
  ⟨h.ms.step (h.ms.below.grown hg h.hi (fun b e => (hr b e).2.2)) rfl hg.size, Nat.le_trans h.hi hg.size, h.lst.grown hg (fun e => (hr L e.symm).2.1 rfl), h.no, fun i hi => by
    obtain ⟨A, c, e, ht⟩ := h.each i hi
    exact ⟨A, c, e, ht.grown hg (fun b e => (hr b e).1)⟩⟩
theorem GS.grown (h : GS base L k ns w O N gv ts) {row : Option Nat} (hg : w.grownBy w' row) (hr : ∀ b, row = some b → O b = none) (hne : gv.ownBlock = none ∨ gv.ownBlock ≠ row) : GS base L k ns w' O N gv ts :=
  ⟨h.own.kept hg hne, h.no, fun m hm => by
    obtain ⟨A, c, e, ht⟩ := h.each m hm
    exact ⟨A, c, e, ht.grown hg hr⟩⟩
theorem GS.push (hM : MS base w0 w O) (hL : L < w.heap.size) (h : GS base L k ns w O N gv ts) {A : Option Addr} {c : Nat} (hA : Tr w O (N % k) (.slice A (lenG ns k N) c) (lenG ns k N) (lenG ns k N)) {A' : Option Addr} {c' : Nat} (hown : w'.ownsRow base 22 1 (.slice A' (N + 1) c') (N + 1) (ts ++ [.slice A (lenG ns k N) c])) (hg : w.grownBy w' gv.ownBlock)
    (hat : Value.ownBlock (.slice A' (N + 1) c') = gv.ownBlock ∨ Value.ownBlock (.slice A' (N + 1) c') = some w.heap.size) : GS base L k ns w' O (N + 1) (.slice A' (N + 1) c') (ts ++ [.slice A (lenG ns k N) c]) := by
  have htl : ts.length = N := by simpa using h.own.1
  refine ⟨hown, fun g hgb => ?_, fun m hm => ?_⟩
  · rcases hat with e | e
    · exact h.no g (by rw [← e]; exact hgb)
    · rw [hgb] at e
      injection e with e
      subst e
      exact ⟨hM.free _ (Nat.le_refl _), by omega⟩
  · by_cases hmN : m < N
    · obtain ⟨A2, c2, e, ht⟩ := h.each m hmN
      exact ⟨A2, c2, by rw [List.getElem?_append_left (by omega)]; exact e, ht.grown hg (fun b e => (h.no b e).1)⟩
    · obtain rfl : m = N := by omega
      exact ⟨A, c, by rw [List.getElem?_append_right (by omega), htl, Nat.sub_self]; rfl, hA.grown hg (fun b e => (h.no b e).1)⟩
theorem ST.pushed (h : ST base w0 L k vs ns w O p) (hG : GS base L k ns w O N gv ts) (hg : w.grownBy w' gv.ownBlock) : ST base w0 L k vs ns w' O p :=
  h.grown hg (fun b e => ⟨(hG.no b e).1, (hG.no b e).2, (hG.own.lt b e).1⟩)
end
theorem MStep.dN {w : World} {O : Own} (q : Nat) : MStep w O (w.drewN q) O := MStep.drewN w O q
theorem GS.drewN {base : Nat} {L k : Nat} {ns : Nat → Nat} {w : World} {O : Own} {N : Nat} {gv : Value} {ts : List Value} (h : GS base L k ns w O N gv ts) (q : Nat) : GS base L k ns (w.drewN q) O N gv ts := h.step (MStep.drewN w O q)
theorem own_pos1 {w : World} {base n c : Nat} {e : TypeId} {A : Option Addr} {xs : List Value} (h : w.ownsRow base e 1 (.slice A n c) n xs) (hn : 0 < n) : ∃ g, A = some ⟨g, 0, none⟩ ∧ g < w.heap.size := by
  rcases h.2 with ⟨_, h0⟩ | ⟨g, cap, cur, hv, _, hg, _⟩
  · omega
  · injection hv with hA
    exact ⟨g, hA, (Array.getElem?_eq_some_iff.1 hg).1⟩
/-- j marks of list x from place n on -/
def mrw (x n : Nat) : Nat → List UInt8
  | 0 => []
  | j + 1 => mrw x n j ++ [mrk x (n + j)]
theorem mrw_len (x n j : Nat) : (mrw x n j).length = j := by
  induction j with
  | zero => rfl
  | succ j ih => simp [mrw, ih]
theorem mrw_get (x n j t : Nat) (h : t < j) : (mrw x n j)[t]? = some (mrk x (n + t)) := by
  induction j with
  | zero => omega
  | succ j ih =>
    unfold mrw
    by_cases htj : t < j
    · rw [List.getElem?_append_left (by rw [mrw_len]; exact htj)]
      exact ih htj
    · obtain rfl : t = j := by omega
      rw [List.getElem?_append_right (by rw [mrw_len]; exact Nat.le_refl _), mrw_len, Nat.sub_self]
      rfl
def mrU (x n j : Nat) : List UInt8 := mrw x n j ++ List.replicate (40 - j) 0
theorem mrU_len (x n j : Nat) (h : j ≤ 40) : (mrU x n j).length = 40 := by simp [mrU, mrw_len]; omega
theorem mrU_set (x n j : Nat) (h : j < 40) : (mrU x n j).set j (mrk x (n + j)) = mrU x n (j + 1) := by
  unfold mrU
  rw [List.set_append_right _ _ (by rw [mrw_len]; exact Nat.le_refl _), mrw_len, Nat.sub_self, show 40 - j = (40 - (j + 1)) + 1 by omega, List.replicate_succ, List.set_cons_zero, mrw, List.append_assoc]
  rfl
theorem mrU_end (x n : Nat) : mrU x n 40 = mrw x n 40 := by simp [mrU]
/-- how far the first writes have come: list i up to j -/
def upTo (ns : Nat → Nat) (i j : Nat) : Nat → Nat := fun x => if x < i then ns x else if x = i then j else 0

set_option maxRecDepth 100000 in
set_option maxHeartbeats 8000000 in
theorem apart_any (base : Nat) (w0 : World) (L k c : Nat) (vs : List Value) (ns : Nat → Nat) (w : World) (O : Own) (hst : ST base w0 L k vs ns w O (fun _ => 0)) (hvl : vs.length = k) (hk : k ≤ 100) (hk0 : 0 < k) (hns : ∀ i, i < k → ns i ≤ 140737488355000) :
    Calls Try.prog 32 #[.slice (some ⟨L, 0, none⟩) k c] w fun e w' => e = .returned (.bool true) ∧ Below base w0 w' := by
  have HST := Lib.hid hst
  have HNS := Lib.hid hns
  have HST0 : Hid (ST base w0 L k vs ns w O (upTo ns 0 0)) := hst.eq (fun i hi => by unfold upTo; split; (omega); split <;> rfl)
  clear hst hns
  go_enter Try.func32, Try.ntmps32
  go_wp2_with fail
  go_loopg [3] k (fun kk q wr => ∃ i : Nat, i ≤ k ∧ kk = k - i ∧ q = .int .i64 (i : Int) ∧ ST base w0 L k vs ns wr O (upTo ns i 0))
  case atStart => exact ⟨0, by omega, rfl, rfl, HST0.out⟩
  case round =>
    clear HST0
    obtain ⟨i, hi, hgk, rfl, hst⟩ := hrel
    have HGK := Lib.hid hgk
    clear hgk
    by_cases hlt : i < k
    · have hlt2 : (i : Int) < (k : Int) := by omega
      have hi0 : (0 : Int) ≤ (i : Int) := by omega
      have HST1 := Lib.hid hst
      have hnb := HNS.out i hlt
      clear hst
      go_wp2_with fail
      go_loopg [4] (ns i) (fun kk q wr => ∃ j : Nat, j ≤ ns i ∧ kk = ns i - j ∧ q = .int .i64 (j : Int) ∧ ST base w0 L k vs ns wr O (upTo ns i j))
      case atStart => exact ⟨0, by omega, rfl, rfl, HST1.out⟩
      case round =>
        clear HST1
        obtain ⟨j, hj, hjk, rfl, hst⟩ := hrel
        have HJK := Lib.hid hjk
        clear hjk
        obtain ⟨A, c1, hcl, htr⟩ := hst.at_ hlt
        have HST2 := Lib.hid hst
        clear hst
        by_cases hlj : j < ns i
        · have hlj2 : (j : Int) < (ns i : Int) := by omega
          have hj0 : (0 : Int) ≤ (j : Int) := by omega
          obtain ⟨g, cap, hv⟩ : ∃ g cap, Value.slice A (ns i) c1 = .slice (some ⟨g, 0, none⟩) (ns i) cap := by
            rcases htr.form with ⟨h, h0⟩ | ⟨g, cap, h, _⟩
            · omega
            · exact ⟨g, cap, h⟩
          injection hv with e1 _ e2
          subst e1
          subst e2
          obtain ⟨x, hx⟩ := htr.cell hlj
          have hf := htr.frozen j
          have hSet := HST2.out.drew.set hlt hcl hlj (show upTo ns i j i = j by unfold upTo; rw [if_neg (by omega), if_pos rfl])
          have HSET : Hid (ST base w0 L k vs ns (wr.drew.setCell ⟨g, j, none⟩ (.int .u8 (mrk i j).toNat)) O (upTo ns i (j + 1))) := hSet.eq (fun y hy => by unfold upTo; split; (rename_i e; subst e; rw [if_neg (by omega)]); (split; rfl; rfl))
          have hcl2 := hSet.at_ hlt
          obtain ⟨A3, c3, hcl3, _⟩ := hcl2
          have hcl3' : (wr.drew.setCell ⟨g, j, none⟩ (.int .u8 (mrk i j).toNat)).cell? ⟨L, i, none⟩ = some (.slice (some ⟨g, 0, none⟩) (ns i) c1) := by
            have h5 := (hSet.lst.cell i).trans ((HST2.out.drew.lst.cell i).symm.trans hcl)
            exact h5
          have hclD : wr.drew.cell? ⟨L, i, none⟩ = some (.slice (some ⟨g, 0, none⟩) (ns i) c1) := hcl
          have hxD : wr.drew.cell? ⟨g, j, none⟩ = some (.int .u8 x.toNat) := hx
          have hfD : wr.drew.frozen? ⟨g, j, none⟩ = false := hf
          have HMK := Lib.hid (fun W => mark_any i j (by omega) (by omega) W)
          clear htr hSet hx hf hcl3
          go_wp2_with fail
          go_region_held3 (fun W' => W'.cell? ⟨L, i, none⟩ = some (.slice (some ⟨g, 0, none⟩) (ns i) c1)) (first | exact hclD | exact hcl3') ((go_at_call 55; (refine (HMK.out _).mono ?_); rintro e w2 ⟨rfl, rfl⟩))
          go_wp2_with fail
          go_roundg (ns i - (j + 1))
          case measure => have := HJK.out; omega
          case rel => exact ⟨j + 1, by omega, rfl, by go_num, HSET.out⟩
        · obtain rfl : j = ns i := by omega
          have hlj2 : ¬ (ns i : Int) < (ns i : Int) := by omega
          have HSE : Hid (ST base w0 L k vs ns wr O (upTo ns (i + 1) 0)) := HST2.out.eq (fun y hy => by
            unfold upTo
            rcases Nat.lt_trichotomy y i with h | h | h
            · rw [if_pos h, if_pos (by omega)]
            · subst h; rw [if_neg (by omega), if_pos rfl, if_pos (by omega)]
            · rw [if_neg (by omega), if_neg (by omega), if_neg (by omega)]; split <;> rfl)
          clear htr
          go_wp2_with fail
          go_roundg (k - (i + 1))
          case measure => have := HGK.out; omega
          case rel => exact ⟨i + 1, by omega, rfl, by go_num, HSE.out⟩
    · obtain rfl : i = k := by omega
      have hlt2 : ¬ (i : Int) < (i : Int) := by omega
      have HSF : Hid (ST base w0 L i vs ns wr O ns) := hst.eq (fun y hy => by unfold upTo; rw [if_pos hy])
      have HG0 : Hid (GS base L i ns wr O 0 (.slice none 0 0) []) := ⟨World.ownsRow_nil _ _ _ _, fun g hg => (by cases hg), fun m hm => absurd hm (by omega)⟩
      clear hst
      go_wp2_with fail
      go_loopg [5, 6] i (fun kk q5 q6 wr => ∃ (x : Nat) (O : Own) (gv : Value) (ts : List Value), x ≤ i ∧ kk = i - x ∧ q6 = .int .i64 (x : Int) ∧ gv = q5 ∧ ST base w0 L i vs ns wr O ns ∧ GS base L i ns wr O x gv ts)
      case atStart => exact ⟨0, O, _, _, by omega, rfl, rfl, rfl, HSF.out, HG0.out⟩
      case round =>
        clear HSF HG0
        obtain ⟨x, O, gv, ts, hx, hgk2, rfl, rfl, hst, hgs⟩ := hrel
        have HGK2 := Lib.hid hgk2
        clear hgk2
        by_cases hlx : x < i
        · have hlx2 : (x : Int) < (i : Int) := by omega
          have hx0 : (0 : Int) ≤ (x : Int) := by omega
          obtain ⟨A0, c0, hcl0, htr0⟩ := hst.at_ hlx
          have hnb := HNS.out x hlx
          have hnb0 : (0 : Int) ≤ (ns x : Int) := by omega
          have hnb1 : (ns x : Int) ≤ 140737488355000 := by omega
          have HST2 := Lib.hid hst
          have HGS2 := Lib.hid hgs
          have HTR2 := Lib.hid htr0
          clear hst hgs htr0
          go_wp2_with fail
          go_loopg [7, 8] 16 (fun kk q7 q8 wr => ∃ (j : Nat) (O : Own) (A : Option Addr) (c : Nat), j ≤ 16 ∧ kk = 16 - j ∧ q8 = .int .i64 (j : Int) ∧ q7 = .slice A (ns x + j) c ∧ Tr wr O x (.slice A (ns x + j) c) (ns x + j) (ns x + j) ∧ ST base w0 L i vs ns wr O ns ∧ GS base L i ns wr O x gv ts)
          case atStart => exact ⟨0, O, A0, c0, by omega, rfl, rfl, rfl, HTR2.out, HST2.out, HGS2.out⟩
          case round =>
            clear HST2 HGS2 HTR2 hcl0
            obtain ⟨j, O, A, c1, hj, hjk, rfl, rfl, htr, hst, hgs⟩ := hrel
            have HJK := Lib.hid hjk
            have HTR := Lib.hid htr
            have HST := Lib.hid hst
            have HGS := Lib.hid hgs
            clear hjk htr hst hgs
            by_cases hlj : j < 16
            · have hlj2 : (j : Int) < 16 := by omega
              have hj0 : (0 : Int) ≤ (j : Int) := by omega
              obtain ⟨A3, c3, hcl, _⟩ := HST.out.at_ hlx
              have HMK : Hid (∀ W, Calls Try.prog 55 #[.int .i64 (x : Int), .int .i64 ((ns x : Int) + (j : Int))] W fun e w' => e = .returned (.int .u8 (mrk x (ns x + j)).toNat) ∧ W = w') := fun W => mark_any x (ns x + j) (by omega) (by omega) W
              go_wp2_with (first
                | (go_at_call 55; (with_reducible refine (HMK.out _).mono ?_); rintro e w2 ⟨rfl, rfl⟩)
                | (at_builtin; refine wpList_app_mk rfl (.tmp 54) (.tmp 64) 22 rfl (HST.out.alloc _).ms (HST.out.alloc _).hi Try.underlying22 eU8 (.slice A (ns x + j) c1) (by rfl) (by exact (MStep.alloc _ O _).keep _ _ _ _ HTR.out) (some ⟨wr.heap.size, 0, none⟩) 1 1 [.int .u8 ((mrk x (ns x + j)).toNat : Int)] (by rfl) (by exact (RdS.new wr _ [.int .u8 ((mrk x (ns x + j)).toNat : Int)] 1 rfl).to1) (by omega) (by intro y hy; obtain rfl : y = 0 := (by omega); rfl) (by omega) ?_
                   intro A4 c4 w4 O4 htr4 hs4 hm4
                   have HTR4 := Lib.hid htr4
                   have HST4 := Lib.hid ((HST.out.alloc _).step hs4 hm4)
                   have HGS4 := Lib.hid ((HGS.out.step (MStep.alloc _ O _)).step hs4)
                   clear htr4 hs4 hm4))
              go_roundg (16 - (j + 1))
              case measure => have := HJK.out; omega
              case rel => exact ⟨j + 1, O4, A4, c4, by omega, rfl, by go_num, rfl, HTR4.out, HST4.out, HGS4.out⟩
            · obtain rfl : j = 16 := by omega
              have hlj2 : ¬ ((16 : Nat) : Int) < 16 := by omega
              have hgow := HGS.out.own
              obtain ⟨gA, gc, hgv, _⟩ := own_form hgow
              subst hgv
              have HLG : Hid (lenG ns i x = ns x + 16) := by show _ = _; unfold lenG; rw [if_pos hlx]
              have HXM : Hid (x % i = x) := Nat.mod_eq_of_lt hlx
              have HOW := Lib.hid hgow
              clear hgow
              go_wp2_with ((at_builtin; refine wpList_app rfl (.tmp 66) (.tmp 68) 84 rfl base 22 1 24 Try.underlying84 eSl (.slice gA x gc) x ts (by rfl) (by exact own_below HOW.out ((Below.refl _ wr).alloc (Nat.le_refl _) _)) (some ⟨wr.heap.size, 0, none⟩) 1 1 [.slice A (ns x + 16) c1] (by rfl) (by exact RdS.new wr _ [.slice A (ns x + 16) c1] 1 rfl) (by intro u hu; simp at hu; subst hu; rfl) (by omega) (by omega) (by exact (HST.out.alloc _).hi) ?_; intro A5 c5 w5 hown5 hc5 hg5 hat5; have HST5 := Lib.hid ((HST.out.alloc _).pushed (HGS.out.step (MStep.alloc _ O _)) hg5); have HGS5 : Hid (GS base L i ns w5 O (x + 1) (.slice A5 (x + 1) c5) (ts ++ [.slice A (lenG ns i x) c1])) := (HGS.out.step (MStep.alloc _ O _)).push (HST.out.alloc _).ms (HST.out.alloc _).lst.lt (by rw [HLG.out, HXM.out]; exact (MStep.alloc _ O _).keep _ _ _ _ HTR.out) (by rw [HLG.out]; exact hown5) hg5 hat5; clear hown5 hg5 hat5))
              go_roundg (i - (x + 1))
              case measure => have := HGK2.out; omega
              case rel => exact ⟨x + 1, O, _, _, by omega, rfl, by go_num, rfl, HST5.out, HGS5.out⟩
        · obtain rfl : x = i := by omega
          have hlx2 : ¬ (x : Int) < (x : Int) := by omega
          have HST6 := Lib.hid hst
          have HGS6 := Lib.hid hgs
          clear hst hgs
          go_wp2_with fail
          go_loopg [5, 9] x (fun kk q5 q9 wr => ∃ (y : Nat) (O : Own) (gv : Value) (ts : List Value), y ≤ x ∧ kk = x - y ∧ q9 = .int .i64 (y : Int) ∧ gv = q5 ∧ ST base w0 L x vs ns wr O ns ∧ GS base L x ns wr O (x + y) gv ts)
          case atStart => exact ⟨0, O, _, _, by omega, rfl, rfl, rfl, HST6.out, HGS6.out⟩
          case round =>
            clear HST6 HGS6
            obtain ⟨y, O, gv, ts, hy, hgk3, rfl, rfl, hst, hgs⟩ := hrel
            have HGK3 := Lib.hid hgk3
            clear hgk3
            have HST := Lib.hid hst
            have HGS := Lib.hid hgs
            clear hst hgs
            by_cases hly : y < x
            · have hly2 : (y : Int) < (x : Int) := by omega
              have hy0 : (0 : Int) ≤ (y : Int) := by omega
              have hnb := HNS.out y hly
              have hnb0 : (0 : Int) ≤ (ns y : Int) := by omega
              have hnb1 : (ns y : Int) ≤ 140737488355000 := by omega
              go_wp2_with ((at_make; refine wpList_make1 rfl (.const (.int .i64 40)) (.const (.int .i64 40)) 22 rfl 5 (.int .u8 0) 1 Try.underlying22 iU8 rfl .i64 .i64 40 40 (by rfl) (by rfl) 40 40 rfl rfl (by omega) (by omega) (by omega) ?_; intro w1 hb1 hg1 hs1; have HB1 : Hid (Blk w1 wr.heap.size 5 (u8s (mrU y (ns y) 0))) := hb1; have HST1 := Lib.hid (HST.out.grown hg1 (fun b e => (by cases e))); have HGS1 := Lib.hid (HGS.out.grown hg1 (fun b e => (by cases e)) (by cases h9 : gv.ownBlock; (exact .inl rfl); (exact .inr (fun e => by cases e)))); clear hb1 hg1 hs1))
              have HGN : Hid (O wr.heap.size = none ∧ wr.heap.size ≠ L ∧ base ≤ wr.heap.size ∧ ∀ b, gv.ownBlock = some b → b ≠ wr.heap.size) := ⟨HST.out.ms.free _ (Nat.le_refl _), by have := HST.out.lst.lt; omega, HST.out.hi, fun b hb => by have := (HGS.out.own.lt b hb).2; omega⟩
              obtain ⟨G, hG⟩ : ∃ G, G = wr.heap.size := ⟨_, rfl⟩
              rw [← hG] at HB1 HGN ⊢
              clear hG HST HGS
              go_loopg [11] 40 (fun kk q wr => ∃ j : Nat, j ≤ 40 ∧ kk = 40 - j ∧ q = .int .i64 (j : Int) ∧ Blk wr G 5 (u8s (mrU y (ns y) j)) ∧ ST base w0 L x vs ns wr O ns ∧ GS base L x ns wr O (x + y) gv ts)
              case atStart => exact ⟨0, by omega, rfl, rfl, HB1.out, HST1.out, HGS1.out⟩
              case round =>
                clear HB1 HST1 HGS1
                obtain ⟨j, hj, hjk, rfl, hb, hst, hgs⟩ := hrel
                have HJK := Lib.hid hjk
                have HST := Lib.hid hst
                have HGS := Lib.hid hgs
                have HB := Lib.hid hb
                clear hjk hst hgs hb
                obtain ⟨A3, c3, hcl, htr⟩ := HST.out.at_ hly
                have HTR := Lib.hid htr
                clear htr
                by_cases hlj : j < 40
                · have hlj2 : (j : Int) < 40 := by omega
                  have hj0 : (0 : Int) ≤ (j : Int) := by omega
                  have HMK : Hid (∀ W, Calls Try.prog 55 #[.int .i64 (y : Int), .int .i64 ((ns y : Int) + (j : Int))] W fun e w' => e = .returned (.int .u8 (mrk y (ns y + j)).toNat) ∧ W = w') := fun W => mark_any y (ns y + j) (by omega) (by omega) W
                  obtain ⟨z, hz⟩ : ∃ z, (mrU y (ns y) j)[j]? = some z := ⟨_, List.getElem?_eq_getElem (by rw [mrU_len _ _ _ hj]; exact hlj)⟩
                  have cz : wr.cell? ⟨G, j, none⟩ = some (.int .u8 z.toNat) := by rw [HB.out.cell, u8s_getElem?, hz]; rfl
                  have fz := HB.out.frozen j
                  have HB2 : Hid (Blk (wr.setCell ⟨G, j, none⟩ (.int .u8 (mrk y (ns y + j)).toNat)) G 5 (u8s (mrU y (ns y) (j + 1)))) := (by
                    have h5 := HB.out.set_ j (.int .u8 (mrk y (ns y + j)).toNat)
                    rw [u8s_set, mrU_set _ _ _ hlj] at h5
                    exact h5)
                  have hOn := (Only.of_setCells wr G j [.int .u8 (mrk y (ns y + j)).toNat]).grown
                  have HST2 : Hid (ST base w0 L x vs ns (wr.setCell ⟨G, j, none⟩ (.int .u8 (mrk y (ns y + j)).toNat)) O ns) := HST.out.grown hOn (fun b e => by injection e with e; subst e; exact ⟨HGN.out.1, HGN.out.2.1, HGN.out.2.2.1⟩)
                  have HGS2 : Hid (GS base L x ns (wr.setCell ⟨G, j, none⟩ (.int .u8 (mrk y (ns y + j)).toNat)) O (x + y) gv ts) := HGS.out.grown hOn (fun b e => by injection e with e; subst e; exact HGN.out.1) (by cases h9 : gv.ownBlock with
                    | none => exact .inl rfl
                    | some b => exact .inr (fun e => HGN.out.2.2.2 b h9 (by injection e)))
                  clear hz hOn
                  go_wp2_with (go_at_call 55; (with_reducible refine (HMK.out _).mono ?_); rintro e w2 ⟨rfl, rfl⟩)
                  go_roundg (40 - (j + 1))
                  case measure => have := HJK.out; omega
                  case rel => exact ⟨j + 1, by omega, rfl, by go_num, HB2.out, HST2.out, HGS2.out⟩
                · obtain rfl : j = 40 := by omega
                  have hlj2 : ¬ ((40 : Nat) : Int) < 40 := by omega
                  have hgow := HGS.out.own
                  obtain ⟨gA, gc, hgv, _⟩ := own_form hgow
                  subst hgv
                  have HLG : Hid (lenG ns x (x + y) = ns y + 40) := by show _ = _; unfold lenG; rw [if_neg (by omega), Nat.add_sub_cancel_left]
                  have HXM : Hid ((x + y) % x = y) := by show _ = _; rw [Nat.add_mod_left]; exact Nat.mod_eq_of_lt hly
                  have HOW := Lib.hid hgow
                  have HNW : Hid (Rd wr (some ⟨G, 0, none⟩) 40 (u8s (mrw y (ns y) 40))) := (by have h5 := HB.out.rdAll; rw [mrU_end, mrw_len] at h5; exact h5)
                  have HNG : Hid (∀ t, t < 40 → (u8s (mrw y (ns y) 40))[t]? = some (.int .u8 (mrk y (ns y + t)).toNat)) := fun t ht => (by rw [u8s_getElem?, mrw_get _ _ _ _ ht]; rfl)
                  clear hgow
                  go_wp2_with (first
                    | (at_builtin; refine wpList_app_mk rfl (.tmp 97) (.tmp 98) 22 rfl HST.out.ms HST.out.hi Try.underlying22 eU8 (.slice A3 (ns y) c3) (by rfl) (by exact HTR.out) (some ⟨G, 0, none⟩) 40 40 (u8s (mrw y (ns y) 40)) (by rfl) HNW.out (by omega) (by exact HNG.out) (by omega) ?_; intro A4 c4 w4 O4 htr4 hs4 hm4; have HTR4 := Lib.hid htr4; have HST4 := Lib.hid (HST.out.step hs4 hm4); have HGS4 := Lib.hid (HGS.out.step hs4); clear htr4 hs4 hm4)
                    | (at_builtin; refine wpList_app rfl (.tmp 93) (.tmp 100) 84 rfl base 22 1 24 Try.underlying84 eSl (.slice gA (x + y) gc) (x + y) ts (by rfl) (by exact own_below HGS4.out.own ((Below.refl _ w4).alloc (Nat.le_refl _) _)) (some ⟨w4.heap.size, 0, none⟩) 1 1 [.slice A4 (ns y + 40) c4] (by rfl) (by exact RdS.new w4 _ [.slice A4 (ns y + 40) c4] 1 rfl) (by intro u hu; simp at hu; subst hu; rfl) (by omega) (by omega) (by exact (HST4.out.alloc _).hi) ?_; intro A5 c5 w5 hown5 hc5 hg5 hat5; have HST5 := Lib.hid ((HST4.out.alloc _).pushed (HGS4.out.step (MStep.alloc _ O4 _)) hg5); have HGS5 : Hid (GS base L x ns w5 O4 (x + y + 1) (.slice A5 (x + y + 1) c5) (ts ++ [.slice A4 (lenG ns x (x + y)) c4])) := (HGS4.out.step (MStep.alloc _ O4 _)).push (HST4.out.alloc _).ms (HST4.out.alloc _).lst.lt (by rw [HLG.out, HXM.out]; exact (MStep.alloc _ O4 _).keep _ _ _ _ HTR4.out) (by rw [HLG.out]; exact hown5) hg5 hat5; clear hown5 hg5 hat5))
                  go_roundg (x - (y + 1))
                  case measure => have := HGK3.out; omega
                  case rel => exact ⟨y + 1, O4, _, _, by omega, rfl, by go_num, rfl, HST5.out, HGS5.out⟩
            · obtain rfl : y = x := by omega
              have hly2 : ¬ (y : Int) < (y : Int) := by omega
              obtain ⟨gA, gc, hgv, _⟩ := own_form HGS.out.own
              subst hgv
              go_wp2_with fail
              go_loopg [12] (y + y) (fun kk q wr => ∃ m : Nat, m ≤ y + y ∧ kk = y + y - m ∧ q = .int .i64 (m : Int) ∧ ST base w0 L y vs ns wr O ns ∧ GS base L y ns wr O (y + y) (.slice gA (y + y) gc) ts)
              case atStart => exact ⟨0, by omega, rfl, rfl, HST.out, HGS.out⟩
              case round =>
                clear HST HGS
                obtain ⟨m, hm, hgk4, rfl, hst, hgs⟩ := hrel
                have HGK4 := Lib.hid hgk4
                have HST := Lib.hid hst
                have HGS := Lib.hid hgs
                clear hgk4 hst hgs
                by_cases hlm : m < y + y
                · have hlm2 : (m : Int) < (y : Int) + (y : Int) := by omega
                  have hm0 : (0 : Int) ≤ (m : Int) := by omega
                  go_wp2_with fail
                  go_loopg [13] (lenG ns y m) (fun kk q wr => ∃ j : Nat, j ≤ lenG ns y m ∧ kk = lenG ns y m - j ∧ q = .int .i64 (j : Int) ∧ ST base w0 L y vs ns wr O ns ∧ GS base L y ns wr O (y + y) (.slice gA (y + y) gc) ts)
                  case atStart => exact ⟨0, by omega, rfl, rfl, HST.out, HGS.out⟩
                  case round =>
                    clear HST HGS
                    obtain ⟨j, hj, hjk, rfl, hst, hgs⟩ := hrel
                    have HJK := Lib.hid hjk
                    have HST := Lib.hid hst
                    have HGS := Lib.hid hgs
                    clear hjk hst hgs
                    obtain ⟨A1, c1, ets, htr⟩ := HGS.out.each m hlm
                    obtain ⟨gg, rfl, _⟩ := own_pos1 HGS.out.own (by omega)
                    have cg : wr.cell? ⟨gg, m, none⟩ = some (.slice A1 (lenG ns y m) c1) := (HGS.out.own.cellAt m (by omega)).trans ets
                    have hlb : lenG ns y m ≤ 140737488355040 := by
                      unfold lenG
                      split
                      · have := HNS.out m (by omega); omega
                      · have := HNS.out (m - y) (by omega); omega
                    have hlb0 : (0 : Int) ≤ (lenG ns y m : Int) := by omega
                    by_cases hlj : j < lenG ns y m
                    · have hlj2 : (j : Int) < (lenG ns y m : Int) := by omega
                      have hj0 : (0 : Int) ≤ (j : Int) := by omega
                      obtain ⟨g2, cap, hv⟩ : ∃ g2 cap, Value.slice A1 (lenG ns y m) c1 = .slice (some ⟨g2, 0, none⟩) (lenG ns y m) cap := by
                        rcases htr.form with ⟨h, h0⟩ | ⟨g2, cap, h, _⟩
                        · omega
                        · exact ⟨g2, cap, h⟩
                      injection hv with e1 _ e2
                      subst e1
                      subst e2
                      obtain ⟨r, hr⟩ : ∃ r, r = m % y := ⟨_, rfl⟩
                      have hr100 : r ≤ 100 := by rw [hr]; have := Nat.mod_lt m hk0; omega
                      have hrm : (m : Int).tmod (y : Int) = (r : Int) := by rw [Int.tmod_eq_emod_of_nonneg hm0, hr]; rfl
                      have cx : wr.cell? ⟨g2, j, none⟩ = some (.int .u8 (mrk r j).toNat) := by rw [hr]; exact htr.mark hlj
                      have HMQ := Lib.hid (fun W n => mark_q r j (by omega) (by omega) W n)
                      have hne : (((mrk r j).toNat : Int) != ((mrk r j).toNat : Int)) = false := by simp
                      have hy0 : ((y : Int) == 0) = false := by rw [beq_eq_false_iff_ne]; omega
                      have hy1 : ¬ (y : Int) = 0 := by omega
                      clear htr ets hr
                      generalize ((mrk r j).toNat : Int) = MV at *
                      go_upto_region 33 with fail
                      go_quiet ((go_at_call 55; (with_reducible exact HMQ.out _ _)))
                      clear hrm
                      go_wp2_with fail
                      go_roundg (lenG ns y m - (j + 1))
                      case measure => have := HJK.out; omega
                      case rel => exact ⟨j + 1, by omega, rfl, by go_num, HST.out.drewN _, HGS.out.drewN _⟩
                    · obtain rfl : j = lenG ns y m := by omega
                      have hlj2 : ¬ (lenG ns y m : Int) < (lenG ns y m : Int) := by omega
                      clear htr ets
                      go_wp2_with fail
                      go_roundg (y + y - (m + 1))
                      case measure => have := HGK4.out; omega
                      case rel => exact ⟨m + 1, by omega, rfl, by go_num, HST.out, HGS.out⟩
                · obtain rfl : m = y + y := by omega
                  have hlm2 : ¬ ((y + y : Nat) : Int) < (y : Int) + (y : Int) := by omega
                  go_wp2_with fail
                  go_loopg [14] y (fun kk q wr => ∃ m : Nat, m ≤ y ∧ kk = y - m ∧ q = .int .i64 (m : Int) ∧ ST base w0 L y vs ns wr O ns)
                  case atStart => exact ⟨0, by omega, rfl, rfl, HST.out⟩
                  case round =>
                    clear HST HGS
                    obtain ⟨m, hm, hgk5, rfl, hst⟩ := hrel
                    have HGK5 := Lib.hid hgk5
                    have HST := Lib.hid hst
                    clear hgk5 hst
                    by_cases hlm : m < y
                    · have hlm2 : (m : Int) < (y : Int) := by omega
                      have hm0 : (0 : Int) ≤ (m : Int) := by omega
                      go_wp2_with fail
                      go_loopg [15] (ns m) (fun kk q wr => ∃ j : Nat, j ≤ ns m ∧ kk = ns m - j ∧ q = .int .i64 (j : Int) ∧ ST base w0 L y vs ns wr O ns)
                      case atStart => exact ⟨0, by omega, rfl, rfl, HST.out⟩
                      case round =>
                        clear HST
                        obtain ⟨j, hj, hjk, rfl, hst⟩ := hrel
                        have HJK := Lib.hid hjk
                        have HST := Lib.hid hst
                        clear hjk hst
                        obtain ⟨A1, c1, hcl, htr⟩ := HST.out.at_ hlm
                        have hlb := HNS.out m hlm
                        have hlb0 : (0 : Int) ≤ (ns m : Int) := by omega
                        by_cases hlj : j < ns m
                        · have hlj2 : (j : Int) < (ns m : Int) := by omega
                          have hj0 : (0 : Int) ≤ (j : Int) := by omega
                          obtain ⟨g2, cap, hv⟩ : ∃ g2 cap, Value.slice A1 (ns m) c1 = .slice (some ⟨g2, 0, none⟩) (ns m) cap := by
                            rcases htr.form with ⟨h, h0⟩ | ⟨g2, cap, h, _⟩
                            · omega
                            · exact ⟨g2, cap, h⟩
                          injection hv with e1 _ e2
                          subst e1
                          subst e2
                          have cx : wr.cell? ⟨g2, j, none⟩ = some (.int .u8 (mrk m j).toNat) := htr.mark hlj
                          have HMQ := Lib.hid (fun W n => mark_q m j (by omega) (by omega) W n)
                          have hne : (((mrk m j).toNat : Int) != ((mrk m j).toNat : Int)) = false := by simp
                          clear htr
                          generalize ((mrk m j).toNat : Int) = MV at *
                          go_upto_region 41 with fail
                          go_quiet ((go_at_call 55; (with_reducible exact HMQ.out _ _)))
                          go_wp2_with fail
                          go_roundg (ns m - (j + 1))
                          case measure => have := HJK.out; omega
                          case rel => exact ⟨j + 1, by omega, rfl, by go_num, HST.out.drewN _⟩
                        · obtain rfl : j = ns m := by omega
                          have hlj2 : ¬ (ns m : Int) < (ns m : Int) := by omega
                          clear htr
                          go_wp2_with fail
                          go_roundg (y - (m + 1))
                          case measure => have := HGK5.out; omega
                          case rel => exact ⟨m + 1, by omega, rfl, by go_num, HST.out⟩
                    · obtain rfl : m = y := by omega
                      have hlm2 : ¬ (m : Int) < (m : Int) := by omega
                      go_wp2_with fail
                      go_ret
                      exact ⟨rfl, HST.out.ms.below⟩
end Go.Proofs.Ytgkhglnfbhdkeaa
