/- Part of the proof: Tm. -/
import Derived.Test.YtafjkbbiaopemaaDoorTfx14
import Derived.Test.YtafjkbbiaopemaaDoorTfx15
set_option linter.unusedVariables false
namespace Go.Proofs.YtafjkbbiaopemaaDoor.Tr
open Go.RowKit
def RdF (F : Nat → Prop) (sz : Nat) (w : World) (A : Option Addr) (n : Nat) (xs : List Value) : Prop := RdS sz w A n xs ∧ (0 < n → ∀ ad : Addr, A = some ad → F ad.block)
structure Keep (F G : Nat → Prop) (w w' : World) : Prop where
  size : w.heap.size ≤ w'.heap.size
  block : ∀ k, F k → k < w.heap.size → w'.heap[k]? = w.heap[k]?
  to : ∀ k, F k → k < w.heap.size → G k
theorem RdF.keep {F G : Nat → Prop} {sz : Nat} {w w' : World} {A : Option Addr} {n : Nat} {xs : List Value} (h : RdF F sz w A n xs) (hk : Keep F G w w') : RdF G sz w' A n xs := by
  obtain ⟨⟨h1, h2⟩, h3⟩ := h
  refine ⟨⟨h1, fun hn => ?_⟩, fun hn ad hA => ?_⟩
  · obtain ⟨b, off, rfl, hb, hc⟩ := h2 hn
    exact ⟨b, off, rfl, Nat.lt_of_lt_of_le hb hk.size, fun j u hu => (World.cell?_of_block (a := ⟨b, off + j, none⟩) (hk.block b (h3 hn _ rfl) hb)).trans (hc j u hu)⟩
  · obtain ⟨b, off, rfl, hb, _⟩ := h2 hn
    injection hA with hA
    subst hA
    exact hk.to b (h3 hn _ rfl) hb
theorem RdF.nil (F : Nat → Prop) (sz : Nat) (w : World) (A : Option Addr) : RdF F sz w A 0 [] := ⟨⟨by simp, fun h => absurd h (by omega)⟩, fun h => absurd h (by omega)⟩
def Ex.op : Ex → ByteArray | .mk a _ _ _ _ => a
def Ex.num : Ex → Int | .mk _ a _ _ _ => a
def Ex.text : Ex → ByteArray | .mk _ _ a _ _ => a
def Ex.args : Ex → List Ex | .mk _ _ _ _ a => a
def exC (e : Ex) (a : Option Addr × Nat) : List Value := [.string e.op, .int .i64 e.num, .string e.text, .int .i64 e.at_, .slice a.1 e.args.length a.2]
def zipC {α β : Type} (f : α → β → List Value) : List α → List β → List Value
  | e :: es, a :: al => f e a ++ zipC f es al
  | _, _ => []
theorem zipC_snoc {α β : Type} (f : α → β → List Value) : ∀ (es : List α) (sl : List β) (e : α) (a : β), sl.length = es.length → zipC f (es ++ [e]) (sl ++ [a]) = zipC f es sl ++ f e a
  | [], [], _, _, _ => by simp [zipC]
  | x :: es, y :: sl, e, a, h => by
    have h5 := zipC_snoc f es sl e a (by simpa using h)
    simp only [List.cons_append, zipC, h5, List.append_assoc]
inductive ArgsIn (F : Nat → Prop) (w : World) : Option Addr → List Ex → Prop
  | mk (A : Option Addr) (es : List Ex) (sl : List (Option Addr × Nat)) (hl : sl.length = es.length) (hr : RdF F 5 w A es.length (zipC exC es sl)) (hi : ∀ (i : Nat) (e : Ex) (a : Option Addr × Nat), es[i]? = some e → sl[i]? = some a → ArgsIn F w a.1 e.args) : ArgsIn F w A es
theorem ArgsIn.keep {F G : Nat → Prop} {w w' : World} (hk : Keep F G w w') {A : Option Addr} {es : List Ex} (h : ArgsIn F w A es) : ArgsIn G w' A es := by
  induction h with
  | mk A es sl hl hr hi ih => exact .mk A es sl hl (hr.keep hk) ih
theorem ArgsIn.nil (F : Nat → Prop) (w : World) (A : Option Addr) : ArgsIn F w A [] := .mk A [] [] rfl (RdF.nil F 5 w A) fun _ _ _ h => (by simp at h)
def rfC (r : Rf) : List Value := [.string r.name, .int .i64 r.at_]
def RfsIn (F : Nat → Prop) (w : World) (A : Option Addr) (l : List Rf) : Prop := RdF F 2 w A l.length (l.flatMap rfC)
theorem RfsIn.keep {F G : Nat → Prop} {w w' : World} (hk : Keep F G w w') {A : Option Addr} {l : List Rf} (h : RfsIn F w A l) : RfsIn G w' A l := RdF.keep h hk
structure StA where
  a : Option Addr × Nat
  b : Option Addr × Nat
  c : Option Addr × Nat
  r : Option Addr × Nat
  y : Option Addr × Nat
  z : Option Addr × Nat
def St.kind : St → ByteArray | .mk a _ _ _ _ _ _ _ _ _ _ => a
def St.at_ : St → Int | .mk _ a _ _ _ _ _ _ _ _ _ => a
def St.name : St → Rf | .mk _ _ a _ _ _ _ _ _ _ _ => a
def St.ea : St → Ex | .mk _ _ _ a _ _ _ _ _ _ _ => a
def St.eb : St → Ex | .mk _ _ _ _ a _ _ _ _ _ _ => a
def St.ec : St → Ex | .mk _ _ _ _ _ a _ _ _ _ _ => a
def St.routes : St → List Rf | .mk _ _ _ _ _ _ a _ _ _ _ => a
def St.block : St → Rf | .mk _ _ _ _ _ _ _ a _ _ _ => a
def St.tag : St → Rf | .mk _ _ _ _ _ _ _ _ a _ _ => a
def St.body : St → List St | .mk _ _ _ _ _ _ _ _ _ a _ => a
def St.els : St → List St | .mk _ _ _ _ _ _ _ _ _ _ a => a
def stC (s : St) (p : StA) : List Value :=
  [.string s.kind, .int .i64 s.at_, .string s.name.name, .int .i64 s.name.at_] ++ (exC s.ea p.a ++ (exC s.eb p.b ++ (exC s.ec p.c ++
    [.slice p.r.1 s.routes.length p.r.2, .string s.block.name, .int .i64 s.block.at_, .string s.tag.name, .int .i64 s.tag.at_, .slice p.y.1 s.body.length p.y.2, .slice p.z.1 s.els.length p.z.2])))
inductive BodyIn (F : Nat → Prop) (w : World) : Option Addr → List St → Prop
  | mk (A : Option Addr) (ss : List St) (sl : List StA) (hl : sl.length = ss.length) (hr : RdF F 26 w A ss.length (zipC stC ss sl))
      (he : ∀ (i : Nat) (s : St) (p : StA), ss[i]? = some s → sl[i]? = some p → ArgsIn F w p.a.1 s.ea.args ∧ ArgsIn F w p.b.1 s.eb.args ∧ ArgsIn F w p.c.1 s.ec.args ∧ RfsIn F w p.r.1 s.routes)
      (hy : ∀ (i : Nat) (s : St) (p : StA), ss[i]? = some s → sl[i]? = some p → BodyIn F w p.y.1 s.body)
      (hz : ∀ (i : Nat) (s : St) (p : StA), ss[i]? = some s → sl[i]? = some p → BodyIn F w p.z.1 s.els) : BodyIn F w A ss
theorem BodyIn.keep {F G : Nat → Prop} {w w' : World} (hk : Keep F G w w') {A : Option Addr} {ss : List St} (h : BodyIn F w A ss) : BodyIn G w' A ss := by
  induction h with
  | mk A ss sl hl hr he hy hz ihy ihz =>
    exact .mk A ss sl hl (hr.keep hk) (fun i s p h1 h2 => by
      obtain ⟨x1, x2, x3, x4⟩ := he i s p h1 h2
      exact ⟨x1.keep hk, x2.keep hk, x3.keep hk, x4.keep hk⟩) ihy ihz
theorem BodyIn.nil (F : Nat → Prop) (w : World) (A : Option Addr) : BodyIn F w A [] := .mk A [] [] rfl (RdF.nil F 26 w A) (fun _ _ _ h => (by simp at h)) (fun _ _ _ h => (by simp at h)) fun _ _ _ h => (by simp at h)
def StIn (F : Nat → Prop) (w : World) (s : St) (p : StA) : Prop := (ArgsIn F w p.a.1 s.ea.args ∧ ArgsIn F w p.b.1 s.eb.args ∧ ArgsIn F w p.c.1 s.ec.args ∧ RfsIn F w p.r.1 s.routes) ∧ BodyIn F w p.y.1 s.body ∧ BodyIn F w p.z.1 s.els
theorem StIn.keep {F G : Nat → Prop} {w w' : World} (hk : Keep F G w w') {s : St} {p : StA} (h : StIn F w s p) : StIn G w' s p := by
  obtain ⟨⟨x1, x2, x3, x4⟩, x5, x6⟩ := h
  exact ⟨⟨x1.keep hk, x2.keep hk, x3.keep hk, x4.keep hk⟩, x5.keep hk, x6.keep hk⟩
def plC (s : Pl) (p : (Option Addr × Nat) × (Option Addr × Nat)) : List Value := [.string s.node.name, .int .i64 s.node.at_] ++ (exC s.delay p.1 ++ exC s.flags p.2)
def PlIn (F : Nat → Prop) (w : World) (s : Pl) (p : (Option Addr × Nat) × (Option Addr × Nat)) : Prop := ArgsIn F w p.1.1 s.delay.args ∧ ArgsIn F w p.2.1 s.flags.args
def PlsIn (F : Nat → Prop) (w : World) (A : Option Addr) (l : List Pl) : Prop := ∃ sl : List ((Option Addr × Nat) × (Option Addr × Nat)), sl.length = l.length ∧ RdF F 12 w A l.length (zipC plC l sl) ∧ ∀ (i : Nat) (s : Pl) (p : (Option Addr × Nat) × (Option Addr × Nat)), l[i]? = some s → sl[i]? = some p → PlIn F w s p
theorem PlIn.keep {F G : Nat → Prop} {w w' : World} (hk : Keep F G w w') {s : Pl} {p : (Option Addr × Nat) × (Option Addr × Nat)} (h : PlIn F w s p) : PlIn G w' s p := ⟨h.1.keep hk, h.2.keep hk⟩
theorem PlsIn.keep {F G : Nat → Prop} {w w' : World} (hk : Keep F G w w') {A : Option Addr} {l : List Pl} (h : PlsIn F w A l) : PlsIn G w' A l := by
  obtain ⟨sl, h1, h2, h3⟩ := h
  exact ⟨sl, h1, h2.keep hk, fun i s p h4 h5 => (h3 i s p h4 h5).keep hk⟩
theorem PlsIn.nil (F : Nat → Prop) (w : World) (A : Option Addr) : PlsIn F w A [] := ⟨[], rfl, RdF.nil F 12 w A, fun _ _ _ h => (by simp at h)⟩
def dcC (s : Dc) (p : (Option Addr × Nat) × (Option Addr × Nat)) : List Value := [.string s.kind, .string s.name.name, .int .i64 s.name.at_] ++ (exC s.value p.1 ++ [.slice p.2.1 s.places.length p.2.2])
def DcIn (F : Nat → Prop) (w : World) (s : Dc) (p : (Option Addr × Nat) × (Option Addr × Nat)) : Prop := ArgsIn F w p.1.1 s.value.args ∧ PlsIn F w p.2.1 s.places
def DcsIn (F : Nat → Prop) (w : World) (A : Option Addr) (l : List Dc) : Prop := ∃ sl : List ((Option Addr × Nat) × (Option Addr × Nat)), sl.length = l.length ∧ RdF F 9 w A l.length (zipC dcC l sl) ∧ ∀ (i : Nat) (s : Dc) (p : (Option Addr × Nat) × (Option Addr × Nat)), l[i]? = some s → sl[i]? = some p → DcIn F w s p
theorem DcIn.keep {F G : Nat → Prop} {w w' : World} (hk : Keep F G w w') {s : Dc} {p : (Option Addr × Nat) × (Option Addr × Nat)} (h : DcIn F w s p) : DcIn G w' s p := ⟨h.1.keep hk, h.2.keep hk⟩
theorem DcsIn.keep {F G : Nat → Prop} {w w' : World} (hk : Keep F G w w') {A : Option Addr} {l : List Dc} (h : DcsIn F w A l) : DcsIn G w' A l := by
  obtain ⟨sl, h1, h2, h3⟩ := h
  exact ⟨sl, h1, h2.keep hk, fun i s p h4 h5 => (h3 i s p h4 h5).keep hk⟩
theorem DcsIn.nil (F : Nat → Prop) (w : World) (A : Option Addr) : DcsIn F w A [] := ⟨[], rfl, RdF.nil F 9 w A, fun _ _ _ h => (by simp at h)⟩
structure Wr (L : List Nat) (w w' : World) : Prop where
  os : w'.os = w.os
  tape : w'.tape = w.tape
  output : w'.output = w.output
  size : w.heap.size ≤ w'.heap.size
  block : ∀ k, k < w.heap.size → k ∉ L → w'.heap[k]? = w.heap[k]?
theorem Wr.refl (L : List Nat) (w : World) : Wr L w w := ⟨rfl, rfl, rfl, Nat.le_refl _, fun _ _ _ => rfl⟩
theorem Wr.trans {L : List Nat} {w w1 w2 : World} (h : Wr L w w1) (k : Wr L w1 w2) : Wr L w w2 :=
  ⟨k.os.trans h.os, k.tape.trans h.tape, k.output.trans h.output, Nat.le_trans h.size k.size, fun i hi hL => (k.block i (Nat.lt_of_lt_of_le hi h.size) hL).trans (h.block i hi hL)⟩
theorem Wr.of_below {L : List Nat} {w w1 : World} (h : Below w.heap.size w w1) : Wr L w w1 := ⟨h.os, h.tape, h.output, h.size, fun k hk _ => h.block k hk⟩
theorem Wr.of_wrote {L : List Nat} {g : Nat} {w w1 : World} (h : Wrote g w w1) (hg : g ∈ L) : Wr L w w1 := ⟨h.os, h.tape, h.output, h.size, fun k hk hL => h.block k hk fun e => hL (by injection e with e; rw [e]; exact hg)⟩
theorem Wr.below {L : List Nat} {B : Nat} {w0 w w1 : World} (h : Wr L w w1) (hb : Below B w0 w) (hL : ∀ g ∈ L, B ≤ g) (hB : B ≤ w.heap.size) : Below B w0 w1 :=
  ⟨h.os.trans hb.os, h.tape.trans hb.tape, h.output.trans hb.output, Nat.le_trans hb.size h.size, fun k hk => (h.block k (Nat.lt_of_lt_of_le hk hB) fun hm => absurd (hL k hm) (by omega)).trans (hb.block k hk)⟩
theorem Wr.keep {L : List Nat} {w w' : World} (h : Wr L w w') (F G : Nat → Prop) (hF : ∀ k, F k → k < w.heap.size → k ∉ L) (hG : ∀ k, F k → k < w.heap.size → G k) : Keep F G w w' := ⟨h.size, fun k hf hk => h.block k hk (hF k hf hk), hG⟩
end Go.Proofs.YtafjkbbiaopemaaDoor.Tr
