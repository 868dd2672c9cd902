/- Part of the proof: Se, TreeParsesW. -/
import Derived.Test.YtafjkbbiaopemaaGreatDoorTox42
import Derived.Test.YtafjkbbiaopemaaGreatDoorTox49
set_option linter.unusedVariables false
namespace Go.Proofs.YtafjkbbiaopemaaGreatDoor.Tr
open Go.RowKit
section
variable {ts : List Lx.Tok} (hN : ts.length + 5 ≤ 140737488355328)
abbrev exS (e : Ex) : Prop := ExSm e.args
section
variable {ex : PS → Ex × PS} (hx : ∀ s, exS (ex s).1)
include hx
theorem atom_sm (s : PS) : exS (atomP ts ex s).1 := by
  unfold atomP
  repeat' split
  all_goals first | exact ExSm.nil | exact hx _
theorem join_sm : ∀ (k : Nat) (l : List Ex) (s : PS), (∀ e ∈ l, exS e) → (∀ e ∈ (joinLoop ts ex k l s).1, exS e) ∧ (joinLoop ts ex k l s).1.length ≤ l.length + k
  | 0, l, s, h => ⟨h, by simp [joinLoop]⟩
  | k + 1, l, s, h => by
    rw [joinLoop]
    split
    · obtain ⟨h1, h2⟩ := join_sm k (l ++ [(ex (nxt s)).1]) (ex (nxt s)).2 (fun e he => by
        rcases List.mem_append.1 he with he | he
        · exact h e he
        · rw [List.mem_singleton.1 he]; exact hx _)
      exact ⟨h1, by rw [List.length_append] at h2; simp at h2; omega⟩
    · exact ⟨h, by dsimp only; omega⟩
include hN
theorem factor_sm (s : PS) : exS (factorP ts ex s).1 := by
  unfold factorP
  repeat' split
  · exact ExSm.nil
  · obtain ⟨h1, h2⟩ := join_sm hx (ts := ts) (ts.length + 1) [(ex (openP ts (nxt s))).1] (ex (openP ts (nxt s))).2 (fun e he => by rw [List.mem_singleton.1 he]; exact hx _)
    exact ExSm.mk _ (Nat.le_trans h2 (by simp only [List.length_cons, List.length_nil]; omega)) h1
  · exact atom_sm hx s
omit hN hx in
theorem two_sm (o t : ByteArray) (n a : Int) {e f : Ex} (he : exS e) (hf : exS f) : exS (.mk o n t a [e, f]) := by
  show ExSm [e, f]
  refine ExSm.mk [e, f] (by simp) (fun x h => ?_)
  simp only [List.mem_cons, List.not_mem_nil, or_false] at h
  rcases h with rfl | rfl
  · exact he
  · exact hf
theorem termL_sm : ∀ (k : Nat) (e : Ex) (s : PS), exS e → exS (termLoop ts ex k e s).1
  | 0, _, _, h => h
  | k + 1, e, s, h => by
    rw [termLoop]
    split
    · exact termL_sm k _ _ (two_sm _ _ _ _ h (factor_sm hN hx _))
    · exact h
theorem term_sm (s : PS) : exS (termP ts ex s).1 := termL_sm hN hx _ _ _ (factor_sm hN hx s)
theorem exprL_sm : ∀ (k : Nat) (e : Ex) (s : PS), exS e → exS (exprLoop ts ex k e s).1
  | 0, _, _, h => h
  | k + 1, e, s, h => by
    rw [exprLoop]
    split
    · exact exprL_sm k _ _ (two_sm _ _ _ _ h (term_sm hN hx _))
    · exact h
theorem exprG_sm (s : PS) : exS (exprG ts ex s).1 := exprL_sm hN hx _ _ _ (term_sm hN hx s)
end
include hN
theorem expr_sm : ∀ (d : Nat) (s : PS), exS (exprP ts d s).1
  | 0, _ => ExSm.nil
  | d + 1, s => exprG_sm hN (fun s => expr_sm d s) s
abbrev plS (p : Pl) : Prop := ExSm p.delay.args ∧ ExSm p.flags.args
theorem place_sm (s : PS) : plS (placeP ts s).1 := by
  unfold placeP
  dsimp only
  constructor
  · show ExSm (if sees ts [m_at] (refP ts s).2 = true then atomP ts (exprP ts 14) (nxt (refP ts s).2) else (zE, (refP ts s).2)).1.args
    split
    · exact atom_sm (expr_sm hN 14) _
    · exact ExSm.nil
  · dsimp only
    generalize (if sees ts [m_at] (refP ts s).2 = true then atomP ts (exprP ts 14) (nxt (refP ts s).2) else (zE, (refP ts s).2)) = q
    split
    · exact atom_sm (expr_sm hN 14) _
    · exact ExSm.nil
theorem placeL_sm : ∀ (k : Nat) (l : List Pl) (s : PS), (∀ e ∈ l, plS e) → (∀ e ∈ (placeLoop ts k l s).1, plS e) ∧ (placeLoop ts k l s).1.length ≤ l.length + k
  | 0, l, s, h => ⟨h, by simp [placeLoop]⟩
  | k + 1, l, s, h => by
    rw [placeLoop]
    split
    · obtain ⟨h1, h2⟩ := placeL_sm k (l ++ [(placeP ts (nxt s)).1]) (placeP ts (nxt s)).2 (fun e he => by
        rcases List.mem_append.1 he with he | he
        · exact h e he
        · rw [List.mem_singleton.1 he]; exact place_sm hN _)
      exact ⟨h1, by rw [List.length_append] at h2; simp at h2; omega⟩
    · exact ⟨h, by dsimp only; omega⟩
abbrev dcS (d : Dc) : Prop := ExSm d.value.args ∧ d.places.length ≤ 140737488355328 ∧ ∀ p ∈ d.places, ExSm p.delay.args ∧ ExSm p.flags.args
theorem decl_sm (s : PS) : dcS (declP ts s).1 := by
  unfold declP
  dsimp only
  split
  · exact ⟨expr_sm hN 14 _, by simp, fun _ h => by simp at h⟩
  · obtain ⟨h1, h2⟩ := placeL_sm hN (ts.length + 1) [(placeP ts (takeP ts m_eq (refP ts (nxt s)).2)).1] (placeP ts (takeP ts m_eq (refP ts (nxt s)).2)).2 (fun e he => by rw [List.mem_singleton.1 he]; exact place_sm hN _)
    exact ⟨ExSm.nil, by simp at h2; dsimp only; omega, h1⟩
theorem declL_sm : ∀ (k : Nat) (l : List Dc) (s : PS), (∀ e ∈ l, dcS e) → (∀ e ∈ (declLoop ts k l s).1, dcS e) ∧ (declLoop ts k l s).1.length ≤ l.length + k
  | 0, l, s, h => ⟨h, by simp [declLoop]⟩
  | k + 1, l, s, h => by
    rw [declLoop]
    split
    · obtain ⟨h1, h2⟩ := declL_sm k (l ++ [(declP ts s).1]) (declP ts s).2 (fun e he => by
        rcases List.mem_append.1 he with he | he
        · exact h e he
        · rw [List.mem_singleton.1 he]; exact decl_sm hN _)
      exact ⟨h1, by rw [List.length_append] at h2; simp at h2; omega⟩
    · exact ⟨h, by dsimp only; omega⟩
omit hN in
theorem refL_sm : ∀ (k : Nat) (l : List Rf) (s : PS), (refLoop ts k l s).1.length ≤ l.length + k
  | 0, l, s => by simp [refLoop]
  | k + 1, l, s => by
    rw [refLoop]
    split
    · have h2 := refL_sm k (l ++ [(refP ts (nxt s)).1]) (refP ts (nxt s)).2
      rw [List.length_append] at h2; simp at h2; omega
    · dsimp only; omega
theorem via_sm (m : Bool) (s : PS) : (viaP ts m s).1.length ≤ 140737488355328 := by
  unfold viaP
  dsimp only
  split
  · have h2 := refL_sm (ts := ts) (ts.length + 1) [(refP ts (takeP ts k_via s)).1] (refP ts (takeP ts k_via s)).2
    simp at h2; omega
  · simp
abbrev stS (s : St) : Prop := (ExSm s.ea.args ∧ ExSm s.eb.args ∧ ExSm s.ec.args ∧ s.routes.length ≤ 140737488355328) ∧ StSm s.body ∧ StSm s.els
omit hN in
theorem StSm.nil : StSm [] := .mk _ (by simp) (fun _ h => by simp at h) (fun _ h => by simp at h) (fun _ h => by simp at h)
theorem line_sm (k : ByteArray) (a : Int) (s : PS) : stS (lineP ts k a s).1 := by
  unfold lineP
  dsimp only
  repeat' split
  all_goals exact ⟨⟨by first | exact ExSm.nil | exact expr_sm hN 14 _, by first | exact ExSm.nil | exact expr_sm hN 14 _, by first | exact ExSm.nil | exact expr_sm hN 14 _, by first | exact via_sm hN _ _ | (simp [St.routes])⟩, StSm.nil, StSm.nil⟩
omit hN in
theorem StSm.of {l : List St} (h : ∀ s ∈ l, stS s) (hl : l.length ≤ 140737488355328) : StSm l := .mk l hl (fun s hs => (h s hs).1) (fun s hs => (h s hs).2.1) (fun s hs => (h s hs).2.2)
section
variable {st : PS → St × PS} (hs : ∀ s, stS (st s).1)
include hs
omit hN in
theorem bodyL_sm : ∀ (k : Nat) (l : List St) (s : PS), (∀ e ∈ l, stS e) → (∀ e ∈ (bodyLoop ts st k l s).1, stS e) ∧ (bodyLoop ts st k l s).1.length ≤ l.length + k
  | 0, l, s, h => ⟨h, by simp [bodyLoop]⟩
  | k + 1, l, s, h => by
    rw [bodyLoop]
    split
    · obtain ⟨h1, h2⟩ := bodyL_sm k (l ++ [(st s).1]) (st s).2 (fun e he => by
        rcases List.mem_append.1 he with he | he
        · exact h e he
        · rw [List.mem_singleton.1 he]; exact hs _)
      exact ⟨h1, by rw [List.length_append] at h2; simp at h2; omega⟩
    · exact ⟨h, by dsimp only; omega⟩
theorem body_sm (s : PS) : StSm (bodyP ts st s).1 := by
  unfold bodyP
  dsimp only
  obtain ⟨h1, h2⟩ := bodyL_sm (ts := ts) hs (ts.length + 2) [] { takeP ts m_lbr (if (sees ts [m_lbr] s && s.bo == 12) = true then failP ts 11 s else s) with bo := (takeP ts m_lbr (if (sees ts [m_lbr] s && s.bo == 12) = true then failP ts 11 s else s)).bo + 1 } (fun _ h => by simp at h)
  exact StSm.of h1 (Nat.le_trans h2 (by simp only [List.length_nil]; omega))
theorem stmtG_sm (s : PS) : stS (stmtG ts st s).1 := by
  unfold stmtG
  dsimp only
  split
  · split
    · exact ⟨⟨expr_sm hN 14 _, ExSm.nil, ExSm.nil, by simp [St.routes]⟩, body_sm hN hs _, StSm.nil⟩
    · split
      · exact ⟨⟨expr_sm hN 14 _, ExSm.nil, ExSm.nil, by simp [St.routes]⟩, body_sm hN hs _, StSm.nil⟩
      · split
        · refine ⟨⟨ExSm.nil, ExSm.nil, ExSm.nil, by simp [St.routes]⟩, body_sm hN hs _, ?_⟩
          dsimp only [St.els]
          split
          · exact body_sm hN hs _
          · exact StSm.nil
        · exact line_sm hN _ _ _
  · exact ⟨⟨ExSm.nil, ExSm.nil, ExSm.nil, by simp [zT, St.routes]⟩, StSm.nil, StSm.nil⟩
end
theorem stmt_sm : ∀ (d : Nat) (s : PS), stS (stmtP ts d s).1
  | 0, _ => ⟨⟨ExSm.nil, ExSm.nil, ExSm.nil, by simp [stmtP, zT, St.routes]⟩, StSm.nil, StSm.nil⟩
  | d + 1, s => stmtG_sm hN (fun s => stmt_sm d s) s
theorem topL_sm : ∀ (k : Nat) (l : List St) (s : PS), (∀ e ∈ l, stS e) → (∀ e ∈ (topLoop ts k l s).1, stS e) ∧ (topLoop ts k l s).1.length ≤ l.length + k
  | 0, l, s, h => ⟨h, by simp [topLoop]⟩
  | k + 1, l, s, h => by
    rw [topLoop]
    split
    · obtain ⟨h1, h2⟩ := topL_sm k (l ++ [(stmtP ts 14 s).1]) (stmtP ts 14 s).2 (fun e he => by
        rcases List.mem_append.1 he with he | he
        · exact h e he
        · rw [List.mem_singleton.1 he]; exact stmt_sm hN 14 _)
      exact ⟨h1, by rw [List.length_append] at h2; simp at h2; omega⟩
    · exact ⟨h, by dsimp only; omega⟩
theorem parseT_sm : DcSm (parseT ts).1.decls ∧ StSm (parseT ts).1.body := by
  unfold parseT
  dsimp only
  obtain ⟨h1, h2⟩ := declL_sm hN (ts.length + 1) [] s0 (fun _ h => by simp at h)
  obtain ⟨h3, h4⟩ := topL_sm hN (ts.length + 2) [] (declLoop ts (ts.length + 1) [] s0).2 (fun _ h => by simp at h)
  split
  · exact ⟨⟨Nat.le_trans h2 (by simp only [List.length_nil]; omega), h1⟩, StSm.of h3 (Nat.le_trans h4 (by simp only [List.length_nil]; omega))⟩
  · exact ⟨⟨by simp, fun _ h => by simp at h⟩, StSm.nil⟩
end
theorem parse_sm (s : List UInt8) : DcSm (parse s).1.decls ∧ StSm (parse s).1.body := by
  rcases hR : Lx.scan s with ⟨⟨p, q⟩, ts⟩
  unfold parse
  rw [hR]
  dsimp only
  split
  · rename_i hp
    subst hp
    have hq : q = 0 := by
      rcases Lx.scan_cases s with ⟨p', q', h1, h2⟩ | ⟨us, h1, _⟩
      · rw [hR] at h1
        injection h1 with h3
        injection h3 with h3 h4
        omega
      · rw [hR] at h1
        injection h1 with h3
        injection h3
    subst hq
    obtain ⟨_, _, hn, _⟩ := scan_ok hR
    exact parseT_sm (by omega)
  · exact ⟨⟨by simp, fun _ h => by simp at h⟩, StSm.nil⟩
end Go.Proofs.YtafjkbbiaopemaaGreatDoor.Tr
namespace Go.Proofs.YtafjkbbiaopemaaGreatDoor.Tr
open Go.RowKit
section
variable {w w' : World}
theorem below_two {B : Nat} {o o' : Obj} {w0 : World} (h : Below B w0 w) (hB : B ≤ w.heap.size) : Below B w0 ((w.alloc o).alloc o') := (h.alloc hB o).alloc (by simp; omega) o'
end
end Go.Proofs.YtafjkbbiaopemaaGreatDoor.Tr
