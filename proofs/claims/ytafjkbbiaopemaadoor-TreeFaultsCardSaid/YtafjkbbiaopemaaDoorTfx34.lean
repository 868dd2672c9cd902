/- Part of the proof: Uh. -/
import Derived.Test.YtafjkbbiaopemaaDoorTfx33
set_option linter.unusedVariables false
namespace Go.Proofs.YtafjkbbiaopemaaDoor.Tr
open Go.RowKit
theorem rd_strs {w : World} {t : TypeId} {L : List ByteArray} {n g : Nat} (hg : g = w.heap.size) (hn : (strs L).length = n) : Rd (w.alloc (.cells (strs L).toArray t)) (some ⟨g, 0, none⟩) n (strs L) := by
  subst hg
  have hb : Blk (w.alloc (.cells (strs L).toArray t)) w.heap.size t (strs L) := Blk.new w t _
  exact ⟨by simpa using hn, fun _ => ⟨w.heap.size, 0, rfl, hb.lt, fun j u hu => by rw [Nat.zero_add, hb.cell]; exact hu⟩⟩
theorem ldq_St (v : Value) : Instr.loadAt 41 v = ldAt 41 v := rfl
def pA0 : StA := ⟨(none, 0), (none, 0), (none, 0), (none, 0), (none, 0), (none, 0)⟩
def kT (k : ByteArray) (a : Int) : St := .mk k a zR zE zE zE [] zR zR [] []
theorem bld_St (k : ByteArray) (a : Int) (w : World) : (Instr.build 41 #[(0, .string k), (1, .int .i64 a)]).run Tryd.prog w = .ok (.agg (stC (kT k a) pA0).toArray) w := by kernel_rfl
theorem bld_St0 (w : World) : (Instr.build 41 #[]).run Tryd.prog w = .ok (.agg (stC zT pA0).toArray) w := by kernel_rfl
theorem sd_ld {w : World} {g : Nat} {t : TypeId} {T : St} {p : StA} (hb : Blk w g t (stC T p)) : (ldAt 41 (.pointer (some ⟨g, 0, none⟩))).run Tryd.prog w = .ok (.agg (stC T p).toArray) w := ldAt_run hb 41 0 (stC T p) rfl _ Tryd.underlying41 rfl hdSt
theorem StIn.zero (F : Nat → Prop) (w : World) (k : ByteArray) (a : Int) : StIn F w (kT k a) pA0 := ⟨⟨ArgsIn.nil _ _ _, ArgsIn.nil _ _ _, ArgsIn.nil _ _ _, RdF.nil _ _ _ _⟩, BodyIn.nil _ _ _, BodyIn.nil _ _ _⟩
section
variable {gp gs gt : Nat} {A : Option Addr} {n c : Nat} {ts : List Lx.Tok} {s q q' : PS} {w w' w'' w6 : World} {T T' : St} {p p' : StA}
theorem line_any (cx : Cx gp gs A n ts) (K : ByteArray) (hK : K = k_send ∨ K = k_split ∨ K = k_cover ∨ K = k_wait ∨ K = k_block ∨ K = k_retry ∨ K = k_every) (at_ : Int) (p0 : StA) (hS : LnS gp gs gt A n c ts w (kT K at_) p0 s w) (hq : Q 14 s) :
    Calls Tryd.prog 31 #[.pointer (some ⟨gp, 0, none⟩), .pointer (some ⟨gt, 0, none⟩)] w fun e w' => e = .returned (.tuple #[]) ∧ ∃ p', LnS gp gs gt A n c ts w (lineP ts K at_ s).1 p' (lineP ts K at_ s).2 w' := by
  rcases hK with rfl | rfl | rfl | rfl | rfl | rfl | rfl
  · cases hw : sees ts [k_with] (viaP ts false (EX ts s).2).2
    · exact line_send0 cx at_ p0 hS hq hw
    · exact line_send1 cx at_ p0 hS hq hw
  · exact line_split cx at_ p0 hS hq
  · exact line_cover cx at_ p0 hS hq
  · exact line_wait cx k_wait rfl at_ p0 hS hq
  · exact line_block cx at_ p0 hS hq
  · exact line_retry cx at_ p0 hS hq
  · exact line_every cx at_ p0 hS hq
theorem Wr.newg (h1 : Wr [gp, gs] w w6) (h2 : Wr [gp, gs, gt] w6 w') (hg : w.heap.size ≤ gt) : Wr [gp, gs] w w' :=
  ⟨h2.os.trans h1.os, h2.tape.trans h1.tape, h2.output.trans h1.output, Nat.le_trans h1.size h2.size, fun k hk hne =>
    (h2.block k (Nat.lt_of_lt_of_le hk h1.size) (fun hm => by simp only [List.mem_cons, List.not_mem_nil, or_false] at hm hne; omega)).trans (h1.block k hk hne)⟩
theorem StE (hL : LnS gp gs gt A n c ts w6 T p q w') (h6 : Wr [gp, gs] w w6) (hgt : w.heap.size < gt) (hlo : PLo gp gs A w.heap.size) (ho : Only w' w'' w.heap.size) :
    StIn (Fr w.heap.size) w'' T p ∧ PSt gp gs A n c ts q w'' ∧ Wr [gp, gs] w w'' :=
  ⟨(hL.ar.keep (keep_wr (Wr.onlyg (L := [w.heap.size]) ho (by simp)) (fun g hg => by simp only [List.mem_cons, List.not_mem_nil, or_false] at hg; have := hL.lt; omega) (Nat.le_refl _))).keep (keep_low h6.size),
    hL.st.only hlo (Nat.le_refl _) ho, ⟨ho.grown.os.trans (Wr.newg h6 hL.wr (Nat.le_of_lt hgt)).os, ho.grown.tape.trans (Wr.newg h6 hL.wr (Nat.le_of_lt hgt)).tape, ho.grown.output.trans (Wr.newg h6 hL.wr (Nat.le_of_lt hgt)).output, Nat.le_trans (Wr.newg h6 hL.wr (Nat.le_of_lt hgt)).size ho.grown.size, fun k hk hne =>
      (ho.grown.block k (Nat.lt_of_lt_of_le hk (Wr.newg h6 hL.wr (Nat.le_of_lt hgt)).size) (fun e => by injection e with e; omega)).trans ((Wr.newg h6 hL.wr (Nat.le_of_lt hgt)).block k hk hne)⟩⟩
theorem LnS.res (hL : LnS gp gs gt A n c ts w6 T p q w') {t : TypeId} {cs : List Value} (hb : Blk w6 w.heap.size t cs) (hgt : w.heap.size < gt) (hlo : PLo gp gs A w.heap.size) : Blk w' w.heap.size t cs :=
  (hL.wr.block _ hb.lt (fun hm => by have h1 := hlo.1; have h2 := hlo.2.1; simp only [List.mem_cons, List.not_mem_nil, or_false] at hm; omega)).trans hb
theorem ten_in {t : Lx.Tok} (h : isOf t ten = true) : bytesOf t.text ∈ ten := by
  unfold isOf at h
  simp only [Bool.and_eq_true] at h
  exact bmem_iff.1 h.2
end
end Go.Proofs.YtafjkbbiaopemaaDoor.Tr
