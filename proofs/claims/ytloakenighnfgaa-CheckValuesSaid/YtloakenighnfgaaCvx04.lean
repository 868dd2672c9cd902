/- Part of the proof: Mps. -/
import Derived.MapKept
import Derived.Test.YtloakenighnfgaaCvx01
set_option linter.unusedVariables false
namespace Go.Proofs.Ytloakenighnfgaa
open Go.RowKit
def mpEnt (es : List MapEntry) (l : List (ByteArray × List Value)) : Prop := es.map (fun e => (e.key, e.val)) = l.map (fun p => (Value.string p.1, Value.agg p.2.toArray))
def MapB (w : World) (r : Nat) (l : List (ByteArray × List Value)) : Prop := ∃ es clock, w.heap[r]? = some (.map es clock) ∧ mpEnt es.toList l
def mpFind : List (ByteArray × List Value) → ByteArray → Option (Nat × List Value)
  | [], _ => none
  | (s, v) :: l, k => if k = s then some (0, v) else (mpFind l k).map fun p => (p.1 + 1, p.2)
def mpPut (l : List (ByteArray × List Value)) (k : ByteArray) (v : List Value) : List (ByteArray × List Value) :=
  match mpFind l k with
  | some (i, _) => l.set i (k, v)
  | none => l ++ [(k, v)]
def mpDel (l : List (ByteArray × List Value)) (k : ByteArray) : List (ByteArray × List Value) :=
  match mpFind l k with
  | some (i, _) => l.eraseIdx i
  | none => l
theorem mpFind_at : ∀ (l : List (ByteArray × List Value)) (k : ByteArray) (i : Nat) (v : List Value), mpFind l k = some (i, v) → l[i]? = some (k, v)
  | [], _, _, _, h => by cases h
  | (s, u) :: l, k, i, v, h => by
      unfold mpFind at h
      split at h
      · rename_i e
        injection h with h
        injection h with h1 h2
        subst h1 h2 e
        rfl
      · cases hm : mpFind l k with
        | none => rw [hm] at h; cases h
        | some p =>
          rw [hm] at h
          injection h with h
          injection h with h1 h2
          subst h1 h2
          exact mpFind_at l k p.1 p.2 hm
theorem find_now (k : ByteArray) : ∀ (es : List MapEntry) (l : List (ByteArray × List Value)) (i : Nat), mpEnt es l → Instr.findNow .string (.string k) es i = some ((mpFind l k).map fun p => (i + p.1, Value.agg p.2.toArray))
  | [], [], _, _ => rfl
  | [], _ :: _, _, h => by simp [mpEnt] at h
  | _ :: _, [], _, h => by simp [mpEnt] at h
  | e :: es, (s, v) :: l, i, h => by
      unfold mpEnt at h
      rw [List.map_cons, List.map_cons] at h
      injection h with h1 h2
      injection h1 with hk hv
      have ih := find_now k es l (i + 1) h2
      unfold Instr.findNow mpFind
      rw [hk]
      by_cases e1 : k = s
      · subst e1
        rw [show Instr.sameNow .string (.string k) (.string k) = some true by show some (k == k) = some true; rw [(MapKept.bytes_beq k k).2 rfl]]
        simp [hv]
      · rw [show Instr.sameNow .string (.string k) (.string s) = some false by show some (k == s) = some false; rw [Bool.eq_false_iff.2 (fun h => e1 ((MapKept.bytes_beq k s).1 h))]]
        simp only [if_neg e1, ih, Option.map_map]
        congr 2
        funext p
        simp only [Function.comp, Nat.add_comm 1 p.1, Nat.add_assoc]
theorem isKey_str (k : ByteArray) : MapKept.IsKey .string (.string k) := by simp [MapKept.IsKey]
section
variable {P : Program} {w : World} {r : Nat} {l : List (ByteArray × List Value)} {kt et mt : TypeId}
theorem run_lookupM (hu : P.underlying mt = some (.map kt et)) (hk : P.underlying kt = some .string) {z : List Value} (hz : (zeroValue et).run P w = .ok (.agg z.toArray) w) (h : MapB w r l) (k : ByteArray) :
    (Instr.lookup mt (.map (some r)) (.string k) true).run P w = .ok (.tuple #[.agg (((mpFind l k).map (·.2)).getD z).toArray, .bool (mpFind l k).isSome]) w := by
  obtain ⟨es, clock, hb, he⟩ := h
  unfold Instr.lookup
  simp only [Sem.run_bind, run_underlying hu, Result.andThen_ok, MapKept.run_getObj_map hb, MapKept.run_checkKey hk (isKey_str k), MapKept.run_findKey hk (find_now k es.toList l 0 he), Sem.run_pure]
  cases hf : mpFind l k with
  | none => simp [hz]
  | some p => simp
theorem mpEnt_len {es : List MapEntry} (h : mpEnt es l) : es.length = l.length := by
  have := congrArg List.length h
  simpa using this
theorem MapB.set {es : Array MapEntry} {clock c' : Nat} {es' : Array MapEntry} {l' : List (ByteArray × List Value)} (hb : w.heap[r]? = some (.map es clock)) (he : mpEnt es'.toList l') : MapB { w with heap := w.heap.setIfInBounds r (.map es' c') } r l' ∧ Only w { w with heap := w.heap.setIfInBounds r (.map es' c') } r :=
  ⟨⟨es', c', (MapKept.heap_set hb).1, he⟩, ⟨⟨rfl, rfl, rfl, by simp, fun k _ hne => (MapKept.heap_set hb).2 k (fun e => hne (by rw [e]))⟩, by simp⟩⟩
theorem run_updateM (hu : P.underlying mt = some (.map kt et)) (hk : P.underlying kt = some .string) (h : MapB w r l) (k : ByteArray) (v : List Value) :
    ∃ w', (Instr.mapUpdate mt (.map (some r)) (.string k) (.agg v.toArray)).run P w = .ok () w' ∧ MapB w' r (mpPut l k v) ∧ Only w w' r := by
  obtain ⟨es, clock, hb, he⟩ := h
  unfold Instr.mapUpdate
  simp only [Sem.run_bind, run_underlying hu, Result.andThen_ok, MapKept.run_getObj_map hb, MapKept.run_checkKey hk (isKey_str k), MapKept.run_findKey hk (find_now k es.toList l 0 he)]
  unfold mpPut
  cases hf : mpFind l k with
  | none =>
    simp only [Option.map_none, MapKept.run_setObj_map _ hb]
    refine ⟨_, rfl, MapB.set hb ?_⟩
    unfold mpEnt at he ⊢
    simp [he]
  | some p =>
    obtain ⟨i, u⟩ := p
    have hat := mpFind_at l k i u hf
    have hlen := mpEnt_len he
    have hi : i < es.toList.length := by rw [hlen]; exact (List.getElem?_eq_some_iff.1 hat).1
    have hei : es.toList[i]? = some (es.toList[i]'hi) := List.getElem?_eq_getElem hi
    have hki : (es.toList[i]'hi).key = .string k := by
      have h5 := congrArg (fun x => x[i]?) he
      simp only [List.getElem?_map, hei, hat, Option.map_some] at h5
      injection h5 with h5
      injection h5
    have hes : es[i]? = some (es.toList[i]'hi) := by rw [← Array.getElem?_toList]; exact hei
    have hstay : ∀ W, (Instr.keyThatStays (.string k) (.string k)).run P W = .ok (.string k) W := fun W => by
      unfold Instr.keyThatStays
      rw [if_pos (by show (k == k) = true; exact (MapKept.bytes_beq k k).2 rfl)]
      rfl
    simp only [Option.map_some, Nat.zero_add, hes, Option.getD_some, hki, Sem.run_bind, hstay, Result.andThen_ok, MapKept.run_setObj_map _ hb]
    refine ⟨_, rfl, MapB.set hb ?_⟩
    unfold mpEnt at he ⊢
    rw [Array.toList_modify]
    apply List.ext_getElem?
    intro j
    have hj := congrArg (fun x => x[j]?) he
    simp only [List.getElem?_map] at hj
    rw [List.getElem?_map, List.getElem?_modify, List.getElem?_map, List.getElem?_set]
    by_cases hij : i = j
    · subst hij
      have hil : i < l.length := by rw [← hlen]; exact hi
      simp [hei, hil]
    · simp only [if_neg hij]
      rw [← hj]
      cases es.toList[j]? <;> rfl
theorem run_deleteM (hu : P.underlying mt = some (.map kt et)) (hk : P.underlying kt = some .string) (h : MapB w r l) (k : ByteArray) (ty : TypeId) (kt' : TypeId) :
    ∃ w', (Builtin.delete_ #[mt, kt'] ty #[.map (some r), .string k]).run P w = .ok (.tuple #[]) w' ∧ MapB w' r (mpDel l k) ∧ Only w w' r := by
  obtain ⟨es, clock, hb, he⟩ := h
  unfold Builtin.delete_
  simp only [List.getElem?_toArray, List.getElem?_cons_zero, List.getElem?_cons_succ, Sem.run_bind, run_underlying hu, Result.andThen_ok, MapKept.run_getObj_map hb, MapKept.run_checkKey hk (isKey_str k), MapKept.run_findKey hk (find_now k es.toList l 0 he)]
  unfold mpDel
  cases hf : mpFind l k with
  | none =>
    simp only [Option.map_none, Sem.run_bind, MapKept.run_setObj_map _ hb, Result.andThen_ok, Sem.run_pure]
    exact ⟨_, rfl, MapB.set hb he⟩
  | some p =>
    obtain ⟨i, u⟩ := p
    simp only [Option.map_some, Nat.zero_add, Sem.run_bind, MapKept.run_setObj_map _ hb, Result.andThen_ok, Sem.run_pure]
    refine ⟨_, rfl, MapB.set hb ?_⟩
    unfold mpEnt at he ⊢
    rw [Array.toList_eraseIdxIfInBounds, List.eraseIdx_eq_take_drop_succ, List.eraseIdx_eq_take_drop_succ, List.map_append, List.map_append, List.map_take, List.map_drop, List.map_take, List.map_drop, he]
theorem MapB.keep {w' : World} {g : Nat} (h : MapB w r l) (ho : Only w w' g) (hne : r ≠ g) : MapB w' r l := by
  obtain ⟨es, c, hb, he⟩ := h
  exact ⟨es, c, (ho.grown.block r (Array.getElem?_eq_some_iff.1 hb).1 (fun e => hne (by injection e))).trans hb, he⟩
theorem MapB.lt (h : MapB w r l) : r < w.heap.size := by
  obtain ⟨es, c, hb, _⟩ := h
  exact (Array.getElem?_eq_some_iff.1 hb).1
theorem MapB.below {w' : World} {B : Nat} (h : MapB w r l) (hb : Below B w w') (hr : r < B) : MapB w' r l := by
  obtain ⟨es, c, he, hl⟩ := h
  exact ⟨es, c, (hb.block r hr).trans he, hl⟩
theorem MapB.alloc (h : MapB w r l) (o : Obj) : MapB (w.alloc o) r l := h.below ((Below.refl _ w).alloc (Nat.le_refl _) o) h.lt
end
end Go.Proofs.Ytloakenighnfgaa
