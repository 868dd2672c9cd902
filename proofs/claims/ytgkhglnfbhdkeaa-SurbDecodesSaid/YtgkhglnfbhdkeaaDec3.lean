/- Both decoders by one contract each; the outcome of a search. -/
import Derived.Test.YtgkhglnfbhdkeaaSto
namespace Go.Proofs.Ytgkhglnfbhdkeaa
open Go.RowKit

/-- the error and the message of a store's answer -/
def decV (own : List UInt8) (ks : List (List UInt8)) (body : List UInt8) : Int :=
  if body.length ≠ 480 then 2 else if perr (dplain own ks body) ≠ 0 then perr (dplain own ks body) else if fK (dplain own ks body) ≠ 3 then 10 else 0
def decM (own : List UInt8) (ks : List (List UInt8)) (body : List UInt8) : List UInt8 :=
  if body.length ≠ 480 then [] else if perr (dplain own ks body) ≠ 0 then [] else if fK (dplain own ks body) ≠ 3 then [] else fData (dplain own ks body)
def DecP (V : Int) (M : List UInt8) (w : World) (e : Ending) (w' : World) : Prop := ∃ A' n c', e = .returned (.tuple #[.slice A' n c', .int .i64 V]) ∧ Rd w' A' n (u8s M) ∧ n ≤ 450 ∧ Below w.heap.size w w'
theorem decP_nil {V : Int} {w w' : World} {e : Ending} (h : e = .returned (.tuple #[.slice none 0 0, .int .i64 V]) ∧ Below w.heap.size w w') : DecP V [] w e w' := ⟨none, 0, 0, h.1, Rd.nil _ _, by omega, h.2⟩
theorem dec_all (mark own : List UInt8) (A : Option Addr) (m c : Nat) (ks : List (List UInt8)) (B : Option Addr) (n d : Nat) (body : List UInt8) (w : World) (h1 : mark.length = 16) (h2 : own.length = 32) (hp : PaysR w A m ks) (hm : m ≤ 1000) (hb : Rd w B n (u8s body)) (hd : n ≤ d) :
    Calls Try.prog 15 #[.agg (stC mark own A m c).toArray, .slice B n d] w (DecP (decV own ks body) (decM own ks body) w) := by
  have hl := hb.len
  by_cases hn : n = 480
  · subst hn
    by_cases he : perr (dplain own ks body) = 0
    · by_cases hk : fK (dplain own ks body) = 3
      · rw [show decV own ks body = 0 by unfold decV; rw [if_neg (by omega), if_neg (by omega), if_neg (by omega)], show decM own ks body = fData (dplain own ks body) by unfold decM; rw [if_neg (by omega), if_neg (by omega), if_neg (by omega)]]
        exact dec_ok mark own A m c ks B d body w h1 h2 hp hm hb hd he hk
      · rw [show decV own ks body = 10 by unfold decV; rw [if_neg (by omega), if_neg (by omega), if_pos hk], show decM own ks body = [] by unfold decM; rw [if_neg (by omega), if_neg (by omega), if_pos hk]]
        exact (dec_kind mark own A m c ks B d body w h1 h2 hp hm hb hd he hk).mono fun _ _ => decP_nil
    · rw [show decV own ks body = perr (dplain own ks body) by unfold decV; rw [if_neg (by omega), if_pos he], show decM own ks body = [] by unfold decM; rw [if_neg (by omega), if_pos he]]
      exact (dec_err mark own A m c ks B d body w h1 h2 hp hm hb hd he).mono fun _ _ => decP_nil
  · rw [show decV own ks body = 2 by unfold decV; rw [if_pos (by omega)], show decM own ks body = [] by unfold decM; rw [if_pos (by omega)]]
    exact (dec_no _ B n d w hn).mono fun _ _ => decP_nil
theorem rdec_all (mark own : List UInt8) (A : Option Addr) (m c : Nat) (ks : List (List UInt8)) (B : Option Addr) (n d : Nat) (body : List UInt8) (w : World) (h1 : mark.length = 16) (h2 : own.length = 32) (hp : PaysR w A m ks) (hm : m ≤ 1000) (hb : Rd w B n (u8s body)) :
    Calls Try.prog 17 #[.agg (stC mark own A m c).toArray, .slice B n d] w (DecP (decV own ks body) (decM own ks body) w) := by
  have hl := hb.len
  by_cases hn : n = 480
  · subst hn
    by_cases he : perr (dplain own ks body) = 0
    · by_cases hk : fK (dplain own ks body) = 3
      · rw [show decV own ks body = 0 by unfold decV; rw [if_neg (by omega), if_neg (by omega), if_neg (by omega)], show decM own ks body = fData (dplain own ks body) by unfold decM; rw [if_neg (by omega), if_neg (by omega), if_neg (by omega)]]
        exact rdec_ok mark own A m c ks B d body w h1 h2 hp hm hb he hk
      · rw [show decV own ks body = 10 by unfold decV; rw [if_neg (by omega), if_neg (by omega), if_pos hk], show decM own ks body = [] by unfold decM; rw [if_neg (by omega), if_neg (by omega), if_pos hk]]
        exact (rdec_kind mark own A m c ks B d body w h1 h2 hp hm hb he hk).mono fun _ _ => decP_nil
    · rw [show decV own ks body = perr (dplain own ks body) by unfold decV; rw [if_neg (by omega), if_pos he], show decM own ks body = [] by unfold decM; rw [if_neg (by omega), if_pos he]]
      exact (rdec_err mark own A m c ks B d body w h1 h2 hp hm hb he).mono fun _ _ => decP_nil
  · rw [show decV own ks body = 2 by unfold decV; rw [if_pos (by omega)], show decM own ks body = [] by unfold decM; rw [if_pos (by omega)]]
    exact (rdec_no _ B n d w hn).mono fun _ _ => decP_nil

/-- the first place of a mark: a place, or none -/
def mR (l : List StD) (mark : List UInt8) : Option Nat := l.findIdx? (fun s => decide (s.mark = mark))
def mI : Option Nat → Int
  | some k => k
  | none => 0
theorem matchP_is {l : List StD} {mark : List UInt8} {w w' : World} {e : Ending} (h : MatchP l mark w e w') : e = .returned (.tuple #[.int .i64 (mI (mR l mark)), .bool (mR l mark).isSome]) ∧ Below w.heap.size w w' := by
  obtain ⟨h, hB⟩ := h
  refine ⟨?_, hB⟩
  rcases h with ⟨k, s, hk, hs, hno, rfl⟩ | ⟨hno, rfl⟩
  · have : mR l mark = some k := by
      unfold mR
      rw [List.findIdx?_eq_some_iff_getElem]
      have hlt := (List.getElem?_eq_some_iff.1 hk).1
      have hg := (List.getElem?_eq_some_iff.1 hk).2
      refine ⟨hlt, by rw [hg]; simpa using hs, fun j hj => ?_⟩
      have := hno j _ hj (List.getElem?_eq_getElem (by omega))
      simpa using this
    rw [this]
    rfl
  · have : mR l mark = none := by
      unfold mR
      rw [List.findIdx?_eq_none_iff]
      intro s hs
      simpa using hno s hs
    rw [this]
    rfl
theorem mR_snoc (l : List StD) (s : StD) : mR (l ++ [s]) s.mark = some (match mR l s.mark with | some k => k | none => l.length) := by
  unfold mR
  rw [List.findIdx?_append]
  cases h : l.findIdx? (fun x => decide (x.mark = s.mark)) with
  | some k => rfl
  | none => simp [List.findIdx?_cons]
end Go.Proofs.Ytgkhglnfbhdkeaa
