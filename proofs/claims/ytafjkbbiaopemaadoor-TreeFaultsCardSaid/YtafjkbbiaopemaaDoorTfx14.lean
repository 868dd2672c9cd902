/- Part of the proof: Tp. -/
import Derived.Test.YtafjkbbiaopemaaDoorTfx12
set_option linter.unusedVariables false
namespace Go.Proofs.YtafjkbbiaopemaaDoor.Tr
@[reducible] def zs : ByteArray := { data := #[] }
@[reducible] def k_let : ByteArray := { data := #[108, 101, 116] }
@[reducible] def k_route : ByteArray := { data := #[114, 111, 117, 116, 101] }
@[reducible] def k_send : ByteArray := { data := #[115, 101, 110, 100] }
@[reducible] def k_split : ByteArray := { data := #[115, 112, 108, 105, 116] }
@[reducible] def k_cover : ByteArray := { data := #[99, 111, 118, 101, 114] }
@[reducible] def k_wait : ByteArray := { data := #[119, 97, 105, 116] }
@[reducible] def k_block : ByteArray := { data := #[98, 108, 111, 99, 107] }
@[reducible] def k_after : ByteArray := { data := #[97, 102, 116, 101, 114] }
@[reducible] def k_repeat : ByteArray := { data := #[114, 101, 112, 101, 97, 116] }
@[reducible] def k_retry : ByteArray := { data := #[114, 101, 116, 114, 121] }
@[reducible] def k_every : ByteArray := { data := #[101, 118, 101, 114, 121] }
@[reducible] def k_if : ByteArray := { data := #[105, 102] }
@[reducible] def k_acked : ByteArray := { data := #[97, 99, 107, 101, 100] }
@[reducible] def k_else : ByteArray := { data := #[101, 108, 115, 101] }
@[reducible] def k_via : ByteArray := { data := #[118, 105, 97] }
@[reducible] def k_with : ByteArray := { data := #[119, 105, 116, 104] }
@[reducible] def k_as : ByteArray := { data := #[97, 115] }
@[reducible] def k_times : ByteArray := { data := #[116, 105, 109, 101, 115] }
@[reducible] def k_join : ByteArray := { data := #[106, 111, 105, 110] }
@[reducible] def k_number : ByteArray := { data := #[110, 117, 109, 98, 101, 114] }
@[reducible] def k_name : ByteArray := { data := #[110, 97, 109, 101] }
@[reducible] def k_text : ByteArray := { data := #[116, 101, 120, 116] }
@[reducible] def m_eq : ByteArray := { data := #[61] }
@[reducible] def m_gt : ByteArray := { data := #[62] }
@[reducible] def m_at : ByteArray := { data := #[64] }
@[reducible] def m_ex : ByteArray := { data := #[33] }
@[reducible] def m_semi : ByteArray := { data := #[59] }
@[reducible] def m_lbr : ByteArray := { data := #[123] }
@[reducible] def m_rbr : ByteArray := { data := #[125] }
@[reducible] def m_lpar : ByteArray := { data := #[40] }
@[reducible] def m_rpar : ByteArray := { data := #[41] }
@[reducible] def m_plus : ByteArray := { data := #[43] }
@[reducible] def m_minus : ByteArray := { data := #[45] }
@[reducible] def m_star : ByteArray := { data := #[42] }
@[reducible] def m_comma : ByteArray := { data := #[44] }
structure Rf where
  name : ByteArray
  at_ : Int
inductive Ex where
  | mk (op : ByteArray) (num : Int) (text : ByteArray) (at_ : Int) (args : List Ex)
structure Pl where
  node : Rf
  delay : Ex
  flags : Ex
structure Dc where
  kind : ByteArray
  name : Rf
  value : Ex
  places : List Pl
inductive St where
  | mk (kind : ByteArray) (at_ : Int) (name : Rf) (a b c : Ex) (routes : List Rf) (block tag : Rf) (body els : List St)
structure Sr where
  decls : List Dc
  body : List St
def Ex.at_ : Ex → Int
  | .mk _ _ _ a _ => a
def zR : Rf := ⟨zs, 0⟩
def zE : Ex := .mk zs 0 zs 0 []
def zT : St := .mk zs 0 zR zE zE zE [] zR zR [] []
structure PS where
  i : Nat
  fe : Int
  fa : Int
  bo : Int
  pa : Int
def PS.ok (s : PS) : Bool := s.fe == 0
section
variable (ts : List Lx.Tok)
def pk (s : PS) : Lx.Tok := tokAt ts s.i
def sees (l : List ByteArray) (s : PS) : Bool := s.ok && isOf (pk ts s) l
def kindIs (k : Nat) (s : PS) : Bool := s.ok && decide ((pk ts s).kind = k)
def failP (e : Int) (s : PS) : PS := if s.ok then { s with fe := e, fa := ((pk ts s).at_ : Int) } else s
def nxt (s : PS) : PS := { s with i := s.i + 1 }
def takeP (T : ByteArray) (s : PS) : PS := if s.ok then (if isOf (pk ts s) [T] then nxt s else { s with fe := 9, fa := ((pk ts s).at_ : Int) }) else s
def refP (s : PS) : Rf × PS := if kindIs ts 1 s then (⟨bytesOf (pk ts s).text, ((pk ts s).at_ : Int)⟩, nxt s) else (zR, failP ts 9 s)
def openP (s : PS) : PS :=
  let s1 := if sees ts [m_lpar] s && s.pa == 12 then failP ts 11 s else s
  let s2 := takeP ts m_lpar s1
  { s2 with pa := s2.pa + 1 }
def shutP (s : PS) : PS :=
  let s2 := takeP ts m_rpar s
  { s2 with pa := s2.pa - 1 }
section
variable (ex : PS → Ex × PS)
def atomP (s : PS) : Ex × PS :=
  if kindIs ts 3 s then (.mk k_number ((pk ts s).num : Int) zs ((pk ts s).at_ : Int) [], nxt s)
  else if kindIs ts 1 s then (.mk k_name 0 (bytesOf (pk ts s).text) ((pk ts s).at_ : Int) [], nxt s)
  else if sees ts [m_lpar] s then ((ex (openP ts s)).1, shutP ts (ex (openP ts s)).2)
  else (zE, failP ts 9 s)
def joinLoop : Nat → List Ex → PS → List Ex × PS
  | 0, l, s => (l, s)
  | k + 1, l, s => if sees ts [m_comma] s then joinLoop k (l ++ [(ex (nxt s)).1]) (ex (nxt s)).2 else (l, s)
def factorP (s : PS) : Ex × PS :=
  if kindIs ts 4 s then (.mk k_text 0 (bytesOf (pk ts s).text) ((pk ts s).at_ : Int) [], nxt s)
  else if sees ts [k_join] s then
    let r := ex (openP ts (nxt s))
    let q := joinLoop ts ex (ts.length + 1) [r.1] r.2
    (.mk k_join 0 zs ((pk ts s).at_ : Int) q.1, shutP ts q.2)
  else atomP ts ex s
def termLoop : Nat → Ex → PS → Ex × PS
  | 0, e, s => (e, s)
  | k + 1, e, s => if sees ts [m_star] s then termLoop k (.mk m_star 0 zs e.at_ [e, (factorP ts ex (nxt s)).1]) (factorP ts ex (nxt s)).2 else (e, s)
def termP (s : PS) : Ex × PS := termLoop ts ex (ts.length + 1) (factorP ts ex s).1 (factorP ts ex s).2
def exprLoop : Nat → Ex → PS → Ex × PS
  | 0, e, s => (e, s)
  | k + 1, e, s => if sees ts [m_plus, m_minus] s then exprLoop k (.mk (bytesOf (pk ts s).text) 0 zs e.at_ [e, (termP ts ex (nxt s)).1]) (termP ts ex (nxt s)).2 else (e, s)
def exprG (s : PS) : Ex × PS := exprLoop ts ex (ts.length + 1) (termP ts ex s).1 (termP ts ex s).2
end
def exprP : Nat → PS → Ex × PS
  | 0, s => (zE, s)
  | d + 1, s => exprG ts (exprP d) s
def placeP (s : PS) : Pl × PS :=
  let r := refP ts s
  let d := if sees ts [m_at] r.2 then atomP ts (exprP ts 14) (nxt r.2) else (zE, r.2)
  let f := if sees ts [m_ex] d.2 then atomP ts (exprP ts 14) (nxt d.2) else (zE, d.2)
  (⟨r.1, d.1, f.1⟩, f.2)
def placeLoop : Nat → List Pl → PS → List Pl × PS
  | 0, l, s => (l, s)
  | k + 1, l, s => if sees ts [m_gt] s then placeLoop k (l ++ [(placeP ts (nxt s)).1]) (placeP ts (nxt s)).2 else (l, s)
def declP (s : PS) : Dc × PS :=
  let kind := bytesOf (pk ts s).text
  let r := refP ts (nxt s)
  let s2 := takeP ts m_eq r.2
  if kind = k_let then
    let v := exprP ts 14 s2
    (⟨kind, r.1, v.1, []⟩, takeP ts m_semi v.2)
  else
    let p := placeP ts s2
    let q := placeLoop ts (ts.length + 1) [p.1] p.2
    (⟨kind, r.1, zE, q.1⟩, takeP ts m_semi q.2)
def refLoop : Nat → List Rf → PS → List Rf × PS
  | 0, l, s => (l, s)
  | k + 1, l, s => if sees ts [m_comma] s then refLoop k (l ++ [(refP ts (nxt s)).1]) (refP ts (nxt s)).2 else (l, s)
def viaP (many : Bool) (s : PS) : List Rf × PS :=
  let r := refP ts (takeP ts k_via s)
  if many then refLoop ts (ts.length + 1) [r.1] r.2 else ([r.1], r.2)
def tagP (s : PS) : Rf × PS := if sees ts [k_as] s then refP ts (nxt s) else (zR, s)
def withP (s : PS) : Rf × PS := if sees ts [k_with] s then refP ts (nxt s) else (zR, s)
abbrev EX := exprP ts 14
def lineP (kind : ByteArray) (at_ : Int) (s : PS) : St × PS :=
  if kind = k_send then
    let a := EX ts s; let r := viaP ts false a.2; let b := withP ts r.2; let t := tagP ts b.2
    (.mk kind at_ zR a.1 zE zE r.1 b.1 t.1 [] [], t.2)
  else if kind = k_split then
    let a := EX ts s; let r := viaP ts true a.2; let t := tagP ts r.2
    (.mk kind at_ zR a.1 zE zE r.1 zR t.1 [] [], t.2)
  else if kind = k_cover then
    let r := refP ts s
    (.mk kind at_ zR zE zE zE [r.1] zR zR [] [], r.2)
  else if kind = k_wait then
    let a := EX ts s
    (.mk kind at_ zR a.1 zE zE [] zR zR [] [], a.2)
  else if kind = k_block then
    let n := refP ts s; let r := viaP ts false n.2
    (.mk kind at_ n.1 zE zE zE r.1 zR zR [] [], r.2)
  else if kind = k_retry then
    let a := EX ts s; let b := EX ts (takeP ts k_every a.2); let c := EX ts (takeP ts k_send b.2); let r := viaP ts false c.2; let t := tagP ts r.2
    (.mk kind at_ zR a.1 b.1 c.1 r.1 zR t.1 [] [], t.2)
  else if kind = k_every then
    let a := EX ts s; let b := EX ts (takeP ts k_times a.2); let r := refP ts (takeP ts k_cover b.2)
    (.mk kind at_ zR a.1 b.1 zE [r.1] zR zR [] [], r.2)
  else (.mk kind at_ zR zE zE zE [] zR zR [] [], s)
def ten : List ByteArray := [k_send, k_split, k_cover, k_wait, k_block, k_after, k_repeat, k_retry, k_every, k_if]
section
variable (st : PS → St × PS)
def bodyLoop : Nat → List St → PS → List St × PS
  | 0, l, s => (l, s)
  | k + 1, l, s => if s.ok && !sees ts [m_rbr] s then bodyLoop k (l ++ [(st s).1]) (st s).2 else (l, s)
def bodyP (s : PS) : List St × PS :=
  let s1 := if sees ts [m_lbr] s && s.bo == 12 then failP ts 11 s else s
  let s2 := takeP ts m_lbr s1
  let r := bodyLoop ts st (ts.length + 2) [] { s2 with bo := s2.bo + 1 }
  let s3 := takeP ts m_rbr r.2
  (r.1, { s3 with bo := s3.bo - 1 })
def stmtG (s : PS) : St × PS :=
  if sees ts ten s then
    let kind := bytesOf (pk ts s).text
    let at_ : Int := ((pk ts s).at_ : Int)
    if kind = k_after then
      let a := EX ts (nxt s); let b := bodyP ts st a.2
      (.mk kind at_ zR a.1 zE zE [] zR zR b.1 [], b.2)
    else if kind = k_repeat then
      let n := refP ts (nxt s); let a := EX ts n.2; let b := bodyP ts st a.2
      (.mk kind at_ n.1 a.1 zE zE [] zR zR b.1 [], b.2)
    else if kind = k_if then
      let t := refP ts (takeP ts k_acked (nxt s)); let b := bodyP ts st t.2
      let e := if sees ts [k_else] b.2 then bodyP ts st (nxt b.2) else ([], b.2)
      (.mk kind at_ zR zE zE zE [] zR t.1 b.1 e.1, e.2)
    else
      let r := lineP ts kind at_ (nxt s)
      (r.1, takeP ts m_semi r.2)
  else (zT, failP ts 9 s)
end
def stmtP : Nat → PS → St × PS
  | 0, s => (zT, failP ts 9 s)
  | d + 1, s => stmtG ts (stmtP d) s
def declLoop : Nat → List Dc → PS → List Dc × PS
  | 0, l, s => (l, s)
  | k + 1, l, s => if sees ts [k_let, k_route] s then declLoop k (l ++ [(declP ts s).1]) (declP ts s).2 else (l, s)
def topLoop : Nat → List St → PS → List St × PS
  | 0, l, s => (l, s)
  | k + 1, l, s => if s.ok && !kindIs ts 6 s then topLoop k (l ++ [(stmtP ts 14 s).1]) (stmtP ts 14 s).2 else (l, s)
def s0 : PS := ⟨0, 0, 0, 0, 0⟩
def parseT : Sr × (Int × Int) :=
  let d := declLoop ts (ts.length + 1) [] s0
  let b := topLoop ts (ts.length + 2) [] d.2
  if b.2.ok then (⟨d.1, b.1⟩, (0, 0)) else (⟨[], []⟩, (b.2.fe, b.2.fa))
end
def parse (l : List UInt8) : Sr × (Int × Int) :=
  let r := Lx.scan l
  if r.1.1 = 0 then parseT r.2 else (⟨[], []⟩, ((r.1.1 : Int), (r.1.2 : Int)))
structure RS where
  i : Nat
  bo : Int
  pa : Int
  bad : Bool
  fe : Int
  fa : Int
section
variable (ts : List Lx.Tok)
def rk (s : RS) : Lx.Tok := tokAt ts s.i
def rnx (s : RS) : RS := { s with i := s.i + 1 }
def rstop (e : Int) (s : RS) : RS := if s.bad then s else { s with bad := true, fe := e, fa := ((rk ts s).at_ : Int) }
def rIs (T : ByteArray) (s : RS) : Bool := !s.bad && isOf (rk ts s) [T]
def rKind (k : Nat) (s : RS) : Bool := !s.bad && decide ((rk ts s).kind = k)
def rneed (T : ByteArray) (s : RS) : RS := if rIs ts T s then rnx s else rstop ts 9 s
def rname (s : RS) : Rf × RS := if rKind ts 1 s then (⟨bytesOf (rk ts s).text, ((rk ts s).at_ : Int)⟩, rnx s) else (zR, rstop ts 9 s)
def rshut (s : RS) : RS :=
  let s2 := rneed ts m_rpar s
  { s2 with pa := s2.pa - 1 }
section
variable (ex : RS → Ex × RS)
end
def rbegins (s : RS) : Bool := !s.bad && isOf (rk ts s) ten
section
variable (st : RS → St × RS)
end
def r0 : RS := ⟨0, 0, 0, false, 0, 0⟩
end
section
variable {ts : List Lx.Tok}
structure Pg (ts : List Lx.Tok) (p q : PS) : Prop where
  le : p.i ≤ q.i
  lt : p.i < ts.length → q.i < ts.length
  pa : q.pa = p.pa
  bo : q.bo = p.bo
  bad : p.ok = false → q.fe = p.fe ∧ q.fa = p.fa ∧ q.i = p.i
  flt : p.i < ts.length → (q.fe = p.fe ∧ q.fa = p.fa) ∨ ((q.fe = 9 ∨ q.fe = 11) ∧ ∃ j, j < ts.length ∧ q.fa = ((tokAt ts j).at_ : Int))
theorem Pg.refl (p : PS) : Pg ts p p := ⟨Nat.le_refl _, id, rfl, rfl, fun _ => ⟨rfl, rfl, rfl⟩, fun _ => .inl ⟨rfl, rfl⟩⟩
theorem Pg.notok {p q : PS} (h : Pg ts p q) (hp : p.ok = false) : q.ok = false := by
  have h5 := (h.bad hp).1
  unfold PS.ok at hp ⊢
  rw [h5]; exact hp
theorem Pg.okof {p q : PS} (h : Pg ts p q) (hq : q.ok = true) : p.ok = true := by
  cases hp : p.ok with
  | true => rfl
  | false => rw [h.notok hp] at hq; exact hq
theorem flt_trans {a b c a' b' c' : Int} (h : (b = a ∧ b' = a') ∨ ((b = 9 ∨ b = 11) ∧ ∃ j, j < ts.length ∧ b' = ((tokAt ts j).at_ : Int))) (k : (c = b ∧ c' = b') ∨ ((c = 9 ∨ c = 11) ∧ ∃ j, j < ts.length ∧ c' = ((tokAt ts j).at_ : Int))) : (c = a ∧ c' = a') ∨ ((c = 9 ∨ c = 11) ∧ ∃ j, j < ts.length ∧ c' = ((tokAt ts j).at_ : Int)) := by
  rcases k with ⟨rfl, rfl⟩ | k
  · exact h
  · exact .inr k
theorem Pg.trans {p q r : PS} (h : Pg ts p q) (k : Pg ts q r) : Pg ts p r :=
  ⟨Nat.le_trans h.le k.le, fun hp => k.lt (h.lt hp), k.pa.trans h.pa, k.bo.trans h.bo, fun hp => ⟨(k.bad (h.notok hp)).1.trans (h.bad hp).1, (k.bad (h.notok hp)).2.1.trans (h.bad hp).2.1, (k.bad (h.notok hp)).2.2.trans (h.bad hp).2.2⟩, fun hp => flt_trans (h.flt hp) (k.flt (h.lt hp))⟩
def Ends (ts : List Lx.Tok) : Prop := ∀ i, (tokAt ts i).kind ≠ 6 → i + 1 < ts.length
variable (HT : Ends ts)
include HT
theorem isOf_lt {s : PS} {l : List ByteArray} (h : isOf (pk ts s) l = true) : s.i + 1 < ts.length := HT s.i (fun e => by unfold isOf pk at h; rw [e] at h; simp at h)
theorem sees_lt {s : PS} {l : List ByteArray} (h : sees ts l s = true) : s.i + 1 < ts.length := by
  unfold sees at h; simp at h; exact isOf_lt HT h.2
theorem kind_lt {s : PS} {k : Nat} (h : kindIs ts k s = true) (hk : k ≠ 6) : s.i + 1 < ts.length := by
  unfold kindIs at h; simp at h; exact HT s.i (by have := h.2; unfold pk at this; omega)
omit HT in
theorem sees_ok {s : PS} {l : List ByteArray} (h : sees ts l s = true) : s.ok = true := by unfold sees at h; simp at h; exact h.1
omit HT in
theorem kind_ok {s : PS} {k : Nat} (h : kindIs ts k s = true) : s.ok = true := by unfold kindIs at h; simp at h; exact h.1
omit HT in
theorem nxt_g {s : PS} (h : s.i + 1 < ts.length) (hk : s.ok = true) : Pg ts s (nxt s) := ⟨Nat.le_succ _, fun _ => h, rfl, rfl, fun h2 => (by rw [hk] at h2; cases h2), fun _ => .inl ⟨rfl, rfl⟩⟩
omit HT in
theorem fail_g {e : Int} (s : PS) (he : e = 9 ∨ e = 11) : Pg ts s (failP ts e s) := by
  unfold failP
  split
  · rename_i h; exact ⟨Nat.le_refl _, id, rfl, rfl, fun h2 => (by rw [h] at h2; cases h2), fun hl => .inr ⟨he, s.i, hl, rfl⟩⟩
  · exact Pg.refl _
theorem take_g (T : ByteArray) (s : PS) : Pg ts s (takeP ts T s) := by
  unfold takeP
  split
  · rename_i h
    split
    · rename_i h2; exact nxt_g (isOf_lt HT h2) h
    · exact ⟨Nat.le_refl _, id, rfl, rfl, fun h2 => (by rw [h] at h2; cases h2), fun hl => .inr ⟨.inl rfl, s.i, hl, rfl⟩⟩
  · exact Pg.refl _
theorem ref_g (s : PS) : Pg ts s (refP ts s).2 := by
  unfold refP
  split
  · rename_i h; exact nxt_g (kind_lt HT h (by decide)) (kind_ok h)
  · exact fail_g s (.inl rfl)
theorem open_g (s : PS) : (openP ts s).pa = s.pa + 1 ∧ Pg ts s { openP ts s with pa := s.pa } := by
  unfold openP
  have h1 : Pg ts s (if sees ts [m_lpar] s && s.pa == 12 then failP ts 11 s else s) := by split; exact fail_g s (.inr rfl); exact Pg.refl _
  have h2 := h1.trans (take_g HT m_lpar _)
  exact ⟨by simp only [h2.pa], ⟨h2.le, h2.lt, rfl, h2.bo, h2.bad, h2.flt⟩⟩
theorem shut_g (s : PS) : (shutP ts s).pa = s.pa - 1 ∧ Pg ts s { shutP ts s with pa := s.pa } := by
  unfold shutP
  have h2 := take_g HT m_rpar s
  exact ⟨by simp only [h2.pa], ⟨h2.le, h2.lt, rfl, h2.bo, h2.bad, h2.flt⟩⟩
theorem paren_g {p q : PS} (h : Pg ts (openP ts p) q) : Pg ts p (shutP ts q) := by
  obtain ⟨h1, h2⟩ := open_g HT p
  obtain ⟨h3, h4⟩ := shut_g HT q
  refine ⟨Nat.le_trans h2.le (Nat.le_trans h.le h4.le), fun hp => h4.lt (h.lt (h2.lt hp)), by rw [h3, h.pa, h1]; omega, h4.bo.trans (h.bo.trans h2.bo), fun hp => ?_, fun hp => flt_trans (flt_trans (h2.flt hp) (h.flt (h2.lt hp))) (h4.flt (h.lt (h2.lt hp)))⟩
  have h5 : (openP ts p).ok = false := h2.notok hp
  have h6 := h.notok h5
  exact ⟨(h4.bad h6).1.trans ((h.bad h5).1.trans (h2.bad hp).1), (h4.bad h6).2.1.trans ((h.bad h5).2.1.trans (h2.bad hp).2.1), (h4.bad h6).2.2.trans ((h.bad h5).2.2.trans (h2.bad hp).2.2)⟩
section
variable {ex : PS → Ex × PS} (HX : ∀ s, Pg ts s (ex s).2)
include HX
theorem atom_g (s : PS) : Pg ts s (atomP ts ex s).2 := by
  unfold atomP
  split
  · rename_i h; exact nxt_g (kind_lt HT h (by decide)) (kind_ok h)
  split
  · rename_i h; exact nxt_g (kind_lt HT h (by decide)) (kind_ok h)
  split
  · exact paren_g HT (HX _)
  · exact fail_g s (.inl rfl)
theorem joinLoop_g : ∀ (k : Nat) (l : List Ex) (s : PS), Pg ts s (joinLoop ts ex k l s).2
  | 0, _, s => Pg.refl s
  | k + 1, l, s => by
    unfold joinLoop
    split
    · rename_i h; exact ((nxt_g (sees_lt HT h) (sees_ok h)).trans (HX _)).trans (joinLoop_g k _ _)
    · exact Pg.refl _
theorem factor_g (s : PS) : Pg ts s (factorP ts ex s).2 := by
  unfold factorP
  split
  · rename_i h; exact nxt_g (kind_lt HT h (by decide)) (kind_ok h)
  split
  · rename_i h; exact (nxt_g (sees_lt HT h) (sees_ok h)).trans (paren_g HT ((HX _).trans (joinLoop_g HT HX _ _ _)))
  · exact atom_g HT HX s
theorem termLoop_g : ∀ (k : Nat) (e : Ex) (s : PS), Pg ts s (termLoop ts ex k e s).2
  | 0, _, s => Pg.refl s
  | k + 1, l, s => by
    unfold termLoop
    split
    · rename_i h; exact ((nxt_g (sees_lt HT h) (sees_ok h)).trans (factor_g HT HX _)).trans (termLoop_g k _ _)
    · exact Pg.refl _
theorem term_g (s : PS) : Pg ts s (termP ts ex s).2 := (factor_g HT HX s).trans (termLoop_g HT HX _ _ _)
theorem exprLoop_g : ∀ (k : Nat) (e : Ex) (s : PS), Pg ts s (exprLoop ts ex k e s).2
  | 0, _, s => Pg.refl s
  | k + 1, l, s => by
    unfold exprLoop
    split
    · rename_i h; exact ((nxt_g (sees_lt HT h) (sees_ok h)).trans (term_g HT HX _)).trans (exprLoop_g k _ _)
    · exact Pg.refl _
theorem exprG_g (s : PS) : Pg ts s (exprG ts ex s).2 := (term_g HT HX s).trans (exprLoop_g HT HX _ _ _)
end
theorem expr_g : ∀ (d : Nat) (s : PS), Pg ts s (exprP ts d s).2
  | 0, s => Pg.refl s
  | d + 1, s => exprG_g HT (expr_g d) s
theorem place_g (s : PS) : Pg ts s (placeP ts s).2 := by
  unfold placeP
  have A : ∀ (c : ByteArray) (s : PS), Pg ts s (if sees ts [c] s then atomP ts (exprP ts 14) (nxt s) else (zE, s)).2 := fun c s => by
    split
    · rename_i h; exact (nxt_g (sees_lt HT h) (sees_ok h)).trans (atom_g HT (expr_g HT 14) _)
    · exact Pg.refl _
  exact ((ref_g HT s).trans (A m_at _)).trans (A m_ex _)
theorem placeLoop_g : ∀ (k : Nat) (l : List Pl) (s : PS), Pg ts s (placeLoop ts k l s).2
  | 0, _, s => Pg.refl s
  | k + 1, l, s => by
    unfold placeLoop
    split
    · rename_i h; exact ((nxt_g (sees_lt HT h) (sees_ok h)).trans (place_g HT _)).trans (placeLoop_g k _ _)
    · exact Pg.refl _
theorem decl_g (s : PS) (h : s.i + 1 < ts.length) (h2 : s.ok = true) : Pg ts s (declP ts s).2 := by
  unfold declP
  have h0 := ((nxt_g h h2).trans (ref_g HT _)).trans (take_g HT m_eq _)
  dsimp only
  split
  · exact (h0.trans (expr_g HT 14 _)).trans (take_g HT _ _)
  · exact ((h0.trans (place_g HT _)).trans (placeLoop_g HT _ _ _)).trans (take_g HT _ _)
theorem refLoop_g : ∀ (k : Nat) (l : List Rf) (s : PS), Pg ts s (refLoop ts k l s).2
  | 0, _, s => Pg.refl s
  | k + 1, l, s => by
    unfold refLoop
    split
    · rename_i h; exact ((nxt_g (sees_lt HT h) (sees_ok h)).trans (ref_g HT _)).trans (refLoop_g k _ _)
    · exact Pg.refl _
theorem via_g (m : Bool) (s : PS) : Pg ts s (viaP ts m s).2 := by
  unfold viaP
  have h0 := (take_g HT k_via s).trans (ref_g HT _)
  dsimp only
  split
  · exact h0.trans (refLoop_g HT _ _ _)
  · exact h0
theorem tag_g (s : PS) : Pg ts s (tagP ts s).2 := by
  unfold tagP
  split
  · rename_i h; exact (nxt_g (sees_lt HT h) (sees_ok h)).trans (ref_g HT _)
  · exact Pg.refl _
theorem with_g (s : PS) : Pg ts s (withP ts s).2 := by
  unfold withP
  split
  · rename_i h; exact (nxt_g (sees_lt HT h) (sees_ok h)).trans (ref_g HT _)
  · exact Pg.refl _
theorem line_g (k : ByteArray) (a : Int) (s : PS) : Pg ts s (lineP ts k a s).2 := by
  unfold lineP
  have E := expr_g HT 14
  have T := take_g HT
  have V := via_g HT
  have G := tag_g HT
  dsimp only
  split
  · exact ((((E s).trans (V _ _)).trans (with_g HT _)).trans (G _))
  split
  · exact ((E s).trans (V _ _)).trans (G _)
  split
  · exact ref_g HT s
  split
  · exact E s
  split
  · exact (ref_g HT s).trans (V _ _)
  split
  · exact ((((((E s).trans (T _ _)).trans (E _)).trans (T _ _)).trans (E _)).trans (V _ _)).trans (G _)
  split
  · exact ((((E s).trans (T _ _)).trans (E _)).trans (T _ _)).trans (ref_g HT _)
  · exact Pg.refl _
section
variable {st : PS → St × PS} (HX : ∀ s, Pg ts s (st s).2)
include HX
omit HT in
theorem bodyLoop_g : ∀ (k : Nat) (l : List St) (s : PS), Pg ts s (bodyLoop ts st k l s).2
  | 0, _, s => Pg.refl s
  | k + 1, l, s => by
    unfold bodyLoop
    split
    · exact (HX _).trans (bodyLoop_g k _ _)
    · exact Pg.refl _
theorem body_g (s : PS) : Pg ts s (bodyP ts st s).2 := by
  unfold bodyP
  have h1 : Pg ts s (if sees ts [m_lbr] s && s.bo == 12 then failP ts 11 s else s) := by split; exact fail_g s (.inr rfl); exact Pg.refl _
  dsimp only
  generalize (if sees ts [m_lbr] s && s.bo == 12 then failP ts 11 s else s) = s1 at h1 ⊢
  have h2 := h1.trans (take_g HT m_lbr _)
  generalize takeP ts m_lbr s1 = s2 at h2 ⊢
  have h3 := bodyLoop_g HX (ts.length + 2) [] { s2 with bo := s2.bo + 1 }
  generalize (bodyLoop ts st (ts.length + 2) [] { s2 with bo := s2.bo + 1 }).2 = s3 at h3 ⊢
  have h4 := take_g HT m_rbr s3
  generalize takeP ts m_rbr s3 = s4 at h4 ⊢
  have h5 := h3.trans h4
  exact ⟨Nat.le_trans h2.le h5.le, fun h => h5.lt (h2.lt h), h5.pa.trans h2.pa, by have := h5.bo; simp only at this ⊢; rw [this, h2.bo]; omega, fun h => by
    have h6 := h2.bad h
    have h7 := h5.bad (h2.notok h)
    exact ⟨h7.1.trans h6.1, h7.2.1.trans h6.2.1, h7.2.2.trans h6.2.2⟩, fun hp => flt_trans (h2.flt hp) (h5.flt (h2.lt hp))⟩
theorem stmtG_g (s : PS) : Pg ts s (stmtG ts st s).2 := by
  unfold stmtG
  split
  · rename_i h
    have h0 := nxt_g (sees_lt HT h) (sees_ok h)
    have E := expr_g HT 14
    have B := body_g HT HX
    dsimp only
    split
    · exact (h0.trans (E _)).trans (B _)
    split
    · exact ((h0.trans (ref_g HT _)).trans (E _)).trans (B _)
    split
    · refine (((h0.trans (take_g HT k_acked _)).trans (ref_g HT _)).trans (B _)).trans ?_
      split
      · rename_i h2; exact (nxt_g (sees_lt HT h2) (sees_ok h2)).trans (B _)
      · exact Pg.refl _
    · exact (h0.trans (line_g HT _ _ _)).trans (take_g HT _ _)
  · exact fail_g s (.inl rfl)
end
theorem stmt_g : ∀ (d : Nat) (s : PS), Pg ts s (stmtP ts d s).2
  | 0, s => fail_g s (.inl rfl)
  | d + 1, s => stmtG_g HT (stmt_g d) s
theorem declLoop_g : ∀ (k : Nat) (l : List Dc) (s : PS), Pg ts s (declLoop ts k l s).2
  | 0, _, s => Pg.refl s
  | k + 1, l, s => by
    unfold declLoop
    split
    · rename_i h; exact (decl_g HT s (sees_lt HT h) (sees_ok h)).trans (declLoop_g k _ _)
    · exact Pg.refl _
theorem topLoop_g : ∀ (k : Nat) (l : List St) (s : PS), Pg ts s (topLoop ts k l s).2
  | 0, _, s => Pg.refl s
  | k + 1, l, s => by
    unfold topLoop
    split
    · exact (stmt_g HT 14 _).trans (topLoop_g k _ _)
    · exact Pg.refl _
end
structure Rel (p : PS) (r : RS) : Prop where
  i : p.i = r.i
  ok : p.ok = !r.bad
  f : r.bad = true → p.fe = r.fe ∧ p.fa = r.fa
  n : r.bad = false → p.bo = r.bo ∧ p.pa = r.pa
def Sim {α : Type} (p : α × PS) (r : α × RS) : Prop := Rel p.2 r.2 ∧ (p.2.ok = true → p.1 = r.1)
section
variable {ts : List Lx.Tok}
theorem Rel.pk {p : PS} {r : RS} (h : Rel p r) : pk ts p = rk ts r := by unfold Tr.pk rk; rw [h.i]
theorem Rel.is {p : PS} {r : RS} (h : Rel p r) (T : ByteArray) : sees ts [T] p = rIs ts T r := by unfold sees rIs; rw [h.ok, h.pk]
theorem Rel.ten {p : PS} {r : RS} (h : Rel p r) : sees ts ten p = rbegins ts r := by unfold sees rbegins; rw [h.ok, h.pk]
theorem Rel.kind {p : PS} {r : RS} (h : Rel p r) (k : Nat) : kindIs ts k p = rKind ts k r := by unfold kindIs rKind; rw [h.ok, h.pk]
theorem Rel.nxt {p : PS} {r : RS} (h : Rel p r) : Rel (nxt p) (rnx r) := ⟨by show p.i + 1 = r.i + 1; rw [h.i], h.ok, h.f, h.n⟩
theorem Rel.fail {p : PS} {r : RS} (h : Rel p r) (e : Int) (he : e ≠ 0) : Rel (failP ts e p) (rstop ts e r) := by
  unfold failP rstop
  cases hb : r.bad with
  | true => rw [if_neg (by rw [h.ok, hb]; simp), if_pos rfl]; exact h
  | false =>
    rw [if_pos (by rw [h.ok, hb]; rfl), if_neg (by simp)]
    exact ⟨h.i, by show (e == 0) = !true; simpa using he, fun _ => ⟨rfl, by rw [h.pk]⟩, fun h2 => (by cases h2)⟩
theorem Rel.take {p : PS} {r : RS} (h : Rel p r) (T : ByteArray) : Rel (takeP ts T p) (rneed ts T r) := by
  unfold takeP rneed
  have hi := h.is (ts := ts) T
  unfold sees at hi
  cases hok : p.ok with
  | false =>
    rw [← hi, hok]
    have h5 := h.fail (ts := ts) 9 (by decide)
    unfold failP at h5
    rw [hok] at h5
    simpa using h5
  | true =>
    rw [← hi, hok]
    cases hq : isOf (Tr.pk ts p) [T] with
    | true => simpa using h.nxt
    | false =>
      have h5 := h.fail (ts := ts) 9 (by decide)
      unfold failP at h5
      rw [hok] at h5
      simpa using h5
theorem Rel.ref {p : PS} {r : RS} (h : Rel p r) : Sim (refP ts p) (rname ts r) := by
  unfold refP rname
  rw [h.kind, h.pk]
  cases rKind ts 1 r
  · exact ⟨h.fail 9 (by decide), fun _ => rfl⟩
  · exact ⟨h.nxt, fun _ => rfl⟩
theorem Rel.set {p : PS} {r : RS} (h : Rel p r) {x x' y y' : Int} (h1 : x = x') (h2 : y = y') : Rel { p with bo := x, pa := y } { r with bo := x', pa := y' } := ⟨h.i, h.ok, h.f, fun _ => ⟨h1, h2⟩⟩
theorem Rel.upPa {p : PS} {r : RS} (h : Rel p r) (d : Int) : Rel { p with pa := p.pa + d } { r with pa := r.pa + d } := ⟨h.i, h.ok, h.f, fun hb => ⟨(h.n hb).1, by show _ + d = _ + d; rw [(h.n hb).2]⟩⟩
theorem Rel.shut {p : PS} {r : RS} (h : Rel p r) : Rel (shutP ts p) (rshut ts r) := (h.take m_rpar).upPa (-1)
theorem Rel.bad {p : PS} {r : RS} (h : Rel p r) (hp : p.ok = false) : r.bad = true := by have := h.ok; rw [hp] at this; simpa using this.symm
end
section
variable {ts : List Lx.Tok} (HT : Ends ts)
section
variable {ex : PS → Ex × PS} {er : RS → Ex × RS} (HG : ∀ s, Pg ts s (ex s).2) (HS : ∀ p r, Rel p r → Sim (ex p) (er r))
include HG HS
end
end
section
variable {ts : List Lx.Tok} (HT : Ends ts)
include HT
end
section
variable {ts : List Lx.Tok} (HT : Ends ts)
section
variable {st : PS → St × PS} {sr : RS → St × RS} (HG : ∀ s, Pg ts s (st s).2) (HS : ∀ p r, Rel p r → sees ts ten p = true → Sim (st p) (sr r)) (HN : ∀ p, sees ts ten p = false → st p = (zT, failP ts 9 p)) (HP : ∀ p, sees ts ten p = true → (st p).2.ok = true → p.i < (st p).2.i)
include HG HS HN HP
end
end
section
variable {ts : List Lx.Tok} (HT : Ends ts)
include HT
end
section
variable {ts : List Lx.Tok} (HT : Ends ts)
include HT
theorem parse_fault (hn : 0 < ts.length) : (parseT ts).2 = (0, 0) ∨ ((parseT ts).1 = ⟨[], []⟩ ∧ ((parseT ts).2.1 = 9 ∨ (parseT ts).2.1 = 11) ∧ ∃ j, j < ts.length ∧ (parseT ts).2.2 = ((tokAt ts j).at_ : Int)) := by
  have h1 := (declLoop_g HT (ts.length + 1) [] s0).trans (topLoop_g HT (ts.length + 2) [] (declLoop ts (ts.length + 1) [] s0).2)
  have h2 := h1.flt hn
  unfold parseT
  dsimp only
  generalize topLoop ts (ts.length + 2) [] (declLoop ts (ts.length + 1) [] s0).2 = X at h2 ⊢
  cases hk : X.2.ok with
  | true => left; rfl
  | false =>
    right
    simp only [Bool.false_eq_true, if_false]
    rcases h2 with ⟨h3, _⟩ | h3
    · exfalso
      unfold PS.ok at hk
      rw [h3] at hk
      cases hk
    · exact ⟨trivial, h3⟩
end
end Go.Proofs.YtafjkbbiaopemaaDoor.Tr
