/- Part of the proof: Awp, Stq, Kof, Sof. -/
import Derived.Great.BuildSlice
import Derived.Test.YtlbnibmcflmohaaGreatPlx45
import Derived.Test.YtlbnibmcflmohaaGreatPlx46
namespace Go.Proofs.YtlbnibmcflmohaaGreat
open Go.RowKit
theorem fits_head {c : Cm} {s : Sp} {f P : List UInt8} {m : Nat} (hc : c.ok) (hs : s.ok) (hf : f.length ≤ 208) (hP : P.length = 288) : fits s (headOf c s f m P) = true := by
  have hb := betaOf_len (s := s) (m := m) hc hf hP
  unfold fits headOf
  rw [decide_eq_true_iff]
  have e1 : ((s.alpha ++ ((Mc.tag s.mac (s.alpha ++ betaOf c s f m P)).take 16 ++ betaOf c s f m P)).drop 32).take 16 = (Mc.tag s.mac (s.alpha ++ betaOf c s f m P)).take 16 := by
    rw [List.drop_left' hs.2.2.2.2.1, List.take_left' (by rw [List.length_take, Mc.tag_len]; rfl)]
  have e2 : ((s.alpha ++ ((Mc.tag s.mac (s.alpha ++ betaOf c s f m P)).take 16 ++ betaOf c s f m P)).drop 48).take 240 = betaOf c s f m P := by
    rw [← List.append_assoc, List.drop_left' (by rw [List.length_append, hs.2.2.2.2.1, List.length_take, Mc.tag_len]; rfl), List.take_of_length_le (by omega)]
  rw [e1, tagOf, e2, List.take_left' hs.2.2.2.2.1]
theorem xor_append {a b c d : List UInt8} (h : a.length = c.length) : Ch.xor (a ++ b) (c ++ d) = Ch.xor a c ++ Ch.xor b d := List.zipWith_append h
theorem turn_append (key a b : List UInt8) : Ch.turn key (a ++ b) = Ch.turn key a ++ Ch.xor b (Ch.piece key a.length b.length) := by
  unfold Ch.turn
  rw [List.length_append, Ch.piece_add, xor_append (Ch.piece_len _ _ _).symm, Nat.zero_add]
theorem turn_back (key x y : List UInt8) : (Ch.turn key (Ch.turn key x ++ y)).take x.length = x := by
  rw [turn_append, Ch.turn_turn, List.take_left]
theorem plain_head {c : Cm} {s : Sp} {f P : List UInt8} {m : Nat} (hc : c.ok) (hs : s.ok) (hf : f.length ≤ 208) (hP : P.length = 288) : (plainOf s (headOf c s f m P)).take 32 = c.enc := by
  have hb := betaOf_len (s := s) (m := m) hc hf hP
  have e2 : ((headOf c s f m P).drop 48).take 240 = betaOf c s f m P := by
    unfold headOf
    rw [← List.append_assoc, List.drop_left' (by rw [List.length_append, hs.2.2.2.2.1, List.length_take, Mc.tag_len]; rfl), List.take_of_length_le (by omega)]
  have hel := Cm.enc_len hc
  unfold plainOf
  rw [e2]
  have key : ∀ x y z, x.length = 32 → (Ch.turn s.stream ((Ch.turn s.stream (x ++ y)) ++ z)).take 32 = x := fun x y z hx => by
    have h1 := turn_back s.stream (x ++ y) z
    have h2 := congrArg (List.take 32) h1
    rw [List.take_take, Nat.min_eq_left (by rw [List.length_append]; omega), List.take_left' hx] at h2
    exact h2
  unfold betaOf
  split
  · rw [List.append_assoc]; exact key _ _ _ hel
  · exact key _ _ _ hel
section
variable {P : Program} {w : World} {ops : Array Oper} {rest : List Oper} {o : Oper} {a : Act} {K : Act → World → Prop} {Q : Exit → Act → World → Prop}
theorem wp_slice1 (t e : TypeId) (x : Operand) (ho : o.op = .buildSlice t 1 #[(0, x)]) (cs : List Value) (hx : a.eval x = .agg cs.toArray) (hu : P.underlying t = some (.slice e)) (hi : (P.info? e).map (fun i => ((i.zero.map (fun z => z.cells.size)), i.size)) = some (some cs.length, cs.length)) (hpos : 0 < cs.length) (hsm : cs.length ≤ 16777216)
    (h : K (a.put o.dst (.slice (some ⟨w.heap.size, 0, none⟩) 1 1)) (w.alloc (.cells cs.toArray e))) : o.wp P a w K Q := by
  cases hie : P.info? e with
  | none => simp [hie] at hi
  | some ie =>
    cases hz : ie.zero with
    | none => simp [hie, hz] at hi
    | some z =>
      simp only [hie, hz, Option.map_some, Option.some.injEq, Prod.mk.injEq] at hi
      refine wp_buildSlice t e 1 #[(0, x)] ho cs.toArray ie z hu hie hz (by rw [hi.2]; omega) (by rw [hi.2]; omega) ?_ h
      have h1 : (#[(0, x)].map fun (p : Nat × Operand) => (p.1, a.eval p.2)).toList = [(0, .agg cs.toArray)] := by simp [hx]
      have h2 : ∃ Z : List Value, ((Array.range (1 * ie.size)).map (z.cells[· % z.cells.size]!)) = Z.toArray ∧ Z.length = cs.length := ⟨((Array.range (1 * ie.size)).map (z.cells[· % z.cells.size]!)).toList, Array.toArray_toList.symm, by simp [hi.2]⟩
      obtain ⟨Z, hZ, hZl⟩ := h2
      show Instr.fill _ _ (#[(0, x)].map fun (p : Nat × Operand) => (p.1, a.eval p.2)).toList = _
      rw [h1, hZ, fill_cons (cs := cs) (off := 0) rfl (by simp [hi.2]) (by omega), splice_whole _ _ hZl.symm]
      rfl
theorem wpList_slice1 (hgd : o.guard = none) (t e : TypeId) (x : Operand) (ho : o.op = .buildSlice t 1 #[(0, x)]) (cs : List Value) (hx : a.eval x = .agg cs.toArray) (hu : P.underlying t = some (.slice e)) (hi : (P.info? e).map (fun i => ((i.zero.map (fun z => z.cells.size)), i.size)) = some (some cs.length, cs.length)) (hpos : 0 < cs.length) (hsm : cs.length ≤ 16777216)
    (h : wpList P ops Q rest (a.put o.dst (.slice (some ⟨w.heap.size, 0, none⟩) 1 1)) (w.alloc (.cells cs.toArray e))) : wpList P ops Q (o :: rest) a w :=
  wpList_of hgd fun _ hK => wp_slice1 t e x ho cs hx hu hi hpos hsm (hK _ _ h)
end
theorem z1cm : (Tryz.prog.info? 50).map (fun i => ((i.zero.map (fun z => z.cells.size)), i.size)) = some (some 20, 20) := by kernel_rfl
theorem z1sp : (Tryz.prog.info? 43).map (fun i => ((i.zero.map (fun z => z.cells.size)), i.size)) = some (some 192, 192) := by kernel_rfl
end Go.Proofs.YtlbnibmcflmohaaGreat
namespace Go.Proofs.YtlbnibmcflmohaaGreat
open Go.RowKit
theorem hd67 : (Tryz.prog.info? 41).map (·.size) = some 128 := by kernel_rfl
def places69 : Array (Nat × Nat) := #[(0, 128), (128, 32), (160, 32)]
theorem pl69 (fields : Array Field) (h : Tryz.prog.underlying 43 = some (.struct fields)) (w : World) : (fields.mapM (fun f => do pure (f.offset, ← sizeOf f.type)) : Sem (Array (Nat × Nat))).run Tryz.prog w = .ok places69 w := by
  rw [Tryz.underlying43] at h
  injection h with h
  injection h with h
  subst h
  kernel_rfl
def Sp.keys (s : Sp) : List UInt8 := s.mac ++ (s.stream ++ (s.pay ++ s.blind))
theorem Sp.bytes_is (s : Sp) : s.bytes = s.keys ++ (s.alpha ++ s.secret) := by simp [Sp.bytes, Sp.keys]
theorem Sp.keys_len {s : Sp} (h : s.ok) : s.keys.length = 128 := by simp [Sp.keys, h.1, h.2.1, h.2.2.1, h.2.2.2.1]
theorem bld_sp (s : Sp) (h : s.ok) (w : World) : (Instr.build 43 #[(0, .agg (u8s s.keys).toArray), (1, .agg (u8s s.alpha).toArray), (2, .agg (u8s s.secret).toArray)]).run Tryz.prog w = .ok (.agg s.cells.toArray) w := by
  have e0 : (u8s s.keys).length = 128 := by rw [u8s_length, Sp.keys_len h]
  have e1 : (u8s s.alpha).length = 32 := by rw [u8s_length, h.2.2.2.2.1]
  have e2 : (u8s s.secret).length = 32 := by rw [u8s_length, h.2.2.2.2.2]
  refine run_build Tryz.zeroValue43 Tryz.underlying43 (pl69 _ Tryz.underlying43) ?_ w
  rw [zcSp]
  show Instr.fill _ _ [(0, _), (1, _), (2, _)] = _
  rw [fill_cons (cs := u8s s.keys) rfl (by rw [e0]; rfl) (by rw [e0, u8s_length, List.length_replicate]; omega),
    fill_cons (cs := u8s s.alpha) rfl (by rw [e1]; rfl) (by rw [length_splice _ _ _ (by rw [e0, u8s_length, List.length_replicate]; omega), e1, u8s_length, List.length_replicate]; omega),
    fill_cons (cs := u8s s.secret) rfl (by rw [e2]; rfl) (by rw [length_splice _ _ _ (by rw [length_splice _ _ _ (by rw [e0, u8s_length, List.length_replicate]; omega), e1, u8s_length, List.length_replicate]; omega), length_splice _ _ _ (by rw [e0, u8s_length, List.length_replicate]; omega), e2, u8s_length, List.length_replicate]; omega)]
  have : splice (splice (splice (u8s (List.replicate 192 0)) 0 (u8s s.keys)) 128 (u8s s.alpha)) 160 (u8s s.secret) = s.cells := by
    rw [splice_splice_splice _ _ _ _ 128 32 e0 e1 (by rw [u8s_length, List.length_replicate, e2])]
    rw [Sp.cells, Sp.bytes_is, u8s_append, u8s_append]
  rw [this]
  rfl
theorem ldq_67 (v : Value) : Instr.loadAt 41 v = ldAt 41 v := rfl
theorem ldq_24 (v : Value) : Instr.loadAt 26 v = ldAt 26 v := rfl
attribute [local go_sem ↓] ldq_67 ldq_24
end Go.Proofs.YtlbnibmcflmohaaGreat
namespace Go.Proofs.YtlbnibmcflmohaaGreat
open Go.RowKit
def lbls : List ByteArray := [⟨#[109, 97, 99]⟩, ⟨#[115, 116, 114, 101, 97, 109]⟩, ⟨#[112, 97, 121]⟩, ⟨#[98, 108, 105, 110, 100]⟩]
def kys (s : List UInt8) : List UInt8 := keysOf s lbls
theorem kys_is (s : List UInt8) : kys s = Wd.derive s lMac ++ (Wd.derive s lStream ++ (Wd.derive s lPay ++ Wd.derive s lBlind)) := by
  simp [kys, keysOf, lbls, lMac, lStream, lPay, lBlind]
theorem kys_len (s : List UInt8) : (kys s).length = 128 := keysOf_len s lbls
theorem stp_keys (al s : List UInt8) : (stp al s).keys = kys s := by rw [kys_is]; rfl
def places67 : Array (Nat × Nat) := #[(0, 32), (32, 32), (64, 32), (96, 32)]
theorem pl67 (fields : Array Field) (h : Tryz.prog.underlying 41 = some (.struct fields)) (w : World) : (fields.mapM (fun f => do pure (f.offset, ← sizeOf f.type)) : Sem (Array (Nat × Nat))).run Tryz.prog w = .ok places67 w := by
  rw [Tryz.underlying41] at h
  injection h with h
  injection h with h
  subst h
  kernel_rfl
theorem zc67 : Tryz.zeroCells41 = (u8s (List.replicate 128 0)).toArray := by kernel_rfl
theorem splice_four {α : Type} (Z X1 X2 X3 X4 : List α) (k : Nat) (h1 : X1.length = k) (h2 : X2.length = k) (h3 : X3.length = k) (hZ : Z.length = k + k + k + X4.length) :
    splice (splice (splice (splice Z 0 X1) k X2) (k + k) X3) (k + k + k) X4 = X1 ++ (X2 ++ (X3 ++ X4)) := by
  have e1 : splice Z 0 X1 = X1 ++ Z.drop k := by simp [splice, h1]
  rw [e1]
  have e2 : splice (X1 ++ Z.drop k) k X2 = X1 ++ (X2 ++ Z.drop (k + k)) := by
    unfold splice
    rw [List.take_left' h1, h2, List.drop_append, List.drop_eq_nil_of_le (by omega), List.nil_append, List.drop_drop, h1, Nat.add_sub_cancel_left]
  rw [e2, ← List.append_assoc X1]
  have e3 : splice ((X1 ++ X2) ++ Z.drop (k + k)) (k + k) X3 = (X1 ++ X2) ++ (X3 ++ Z.drop (k + k + k)) := by
    unfold splice
    rw [List.take_left' (by simp [h1, h2]), h3, List.drop_append, List.drop_eq_nil_of_le (by simp [h1, h2]), List.nil_append, List.drop_drop, List.length_append, h1, h2, Nat.add_sub_cancel_left]
  rw [e3, ← List.append_assoc (X1 ++ X2)]
  unfold splice
  rw [List.take_left' (by simp [h1, h2, h3]; omega), List.drop_append, List.drop_eq_nil_of_le (by simp [h1, h2, h3]; omega), List.nil_append, List.drop_drop, List.drop_eq_nil_of_le (by simp [h1, h2, h3, hZ]; omega), List.append_nil]
  simp
theorem bld_kys (a b c d : List UInt8) (ha : a.length = 32) (hb : b.length = 32) (hc : c.length = 32) (hd : d.length = 32) (w : World) : (Instr.build 41 #[(0, .agg (u8s a).toArray), (1, .agg (u8s b).toArray), (2, .agg (u8s c).toArray), (3, .agg (u8s d).toArray)]).run Tryz.prog w = .ok (.agg (u8s (a ++ (b ++ (c ++ d)))).toArray) w := by
  have e0 : (u8s a).length = 32 := by rw [u8s_length, ha]
  have e1 : (u8s b).length = 32 := by rw [u8s_length, hb]
  have e2 : (u8s c).length = 32 := by rw [u8s_length, hc]
  have e3 : (u8s d).length = 32 := by rw [u8s_length, hd]
  have z0 : (u8s (List.replicate 128 0)).length = 128 := by rw [u8s_length, List.length_replicate]
  have l1 : (splice (u8s (List.replicate 128 0)) 0 (u8s a)).length = 128 := by rw [length_splice _ _ _ (by rw [e0, z0]; omega), z0]
  have l2 : (splice (splice (u8s (List.replicate 128 0)) 0 (u8s a)) 32 (u8s b)).length = 128 := by rw [length_splice _ _ _ (by rw [e1, l1]; omega), l1]
  have l3 : (splice (splice (splice (u8s (List.replicate 128 0)) 0 (u8s a)) 32 (u8s b)) 64 (u8s c)).length = 128 := by rw [length_splice _ _ _ (by rw [e2, l2]; omega), l2]
  refine run_build Tryz.zeroValue41 Tryz.underlying41 (pl67 _ Tryz.underlying41) ?_ w
  rw [zc67]
  show Instr.fill _ _ [(0, _), (1, _), (2, _), (3, _)] = _
  rw [fill_cons (cs := u8s a) rfl (by rw [e0]; rfl) (by rw [e0, z0]; omega), fill_cons (cs := u8s b) rfl (by rw [e1]; rfl) (by rw [e1, l1]; omega),
    fill_cons (cs := u8s c) rfl (by rw [e2]; rfl) (by rw [e2, l2]; omega), fill_cons (cs := u8s d) rfl (by rw [e3]; rfl) (by rw [e3, l3]; omega)]
  have : splice (splice (splice (splice (u8s (List.replicate 128 0)) 0 (u8s a)) 32 (u8s b)) 64 (u8s c)) 96 (u8s d) = u8s (a ++ (b ++ (c ++ d))) := by
    rw [splice_four _ _ _ _ _ 32 e0 e1 e2 (by rw [z0, e3])]
    simp [u8s_append]
  rw [this]
  rfl
theorem sz32a (w : World) : (sizeOf 26).run Tryz.prog w = .ok 32 w := by kernel_rfl
theorem ex_bld {P : Program} {o : Oper} {a : Act} {w : World} (t : TypeId) (parts : List (Nat × Operand)) (ho : o.op = .build t parts.toArray) (parts' : List (Nat × Value)) (he : parts.map (fun p => (p.1, a.eval p.2)) = parts') {v : Value} (hrun : (Instr.build t parts'.toArray).run P w = .ok v w) : (execOp a.eval o).run P w = .ok (.value v) w := by
  unfold execOp
  simp only [ho, Sem.run_bind, List.map_toArray, he, hrun, Sem.run_pure, Result.andThen_ok]
set_option maxRecDepth 100000 in
set_option maxHeartbeats 2000000 in
theorem keysof_any (A : Option Addr) (c : Nat) (s : List UInt8) (w : World) (h : Rd w A 32 (u8s s)) (hc : 32 ≤ c) :
    Calls Tryz.prog 37 #[.slice A 32 c] w fun e w' => e = .returned (.tuple #[.agg (u8s (kys s)).toArray, .int .i64 0]) ∧ Below w.heap.size w w' := by
  have HR := Lib.hid h
  have HDV : Hid (∀ W A2, Rd W A 32 (u8s s) → Rd W A2 4 (strs lbls) → Calls Tryz.prog 59 #[.slice A 32 c, .slice A2 4 4] W fun e w' => ∃ g, e = .returned (.slice (some ⟨g, 0, none⟩) 4 4) ∧ W.heap.size ≤ g ∧ Blk w' g 26 (u8s (kys s)) ∧ Below W.heap.size W w') := fun W A2 h1 h2 =>
    derive_any A 32 c s A2 4 4 lbls W h1 hc (by omega) h2 (by omega) (by omega) (by intro l hl; simp only [lbls, List.mem_cons, List.not_mem_nil, or_false] at hl; rcases hl with rfl | rfl | rfl | rfl <;> decide)
  obtain ⟨D0, hD0⟩ : ∃ D, D = Wd.derive s lMac := ⟨_, rfl⟩
  obtain ⟨D1, hD1⟩ : ∃ D, D = Wd.derive s lStream := ⟨_, rfl⟩
  obtain ⟨D2, hD2⟩ : ∃ D, D = Wd.derive s lPay := ⟨_, rfl⟩
  obtain ⟨D3, hD3⟩ : ∃ D, D = Wd.derive s lBlind := ⟨_, rfl⟩
  have l0 : D0.length = 32 := by rw [hD0]; exact Wd.derive_len _ _
  have l1 : D1.length = 32 := by rw [hD1]; exact Wd.derive_len _ _
  have l2 : D2.length = 32 := by rw [hD2]; exact Wd.derive_len _ _
  have l3 : D3.length = 32 := by rw [hD3]; exact Wd.derive_len _ _
  have hk : kys s = D0 ++ (D1 ++ (D2 ++ D3)) := by rw [kys_is, hD0, hD1, hD2, hD3]
  have HKL : Hid ((u8s (kys s)).length = 128) := by show _ = _; rw [u8s_length, kys_len]
  generalize kys s = KK at *
  have HBD : Hid (∀ W, (Instr.build 41 [(0, (.agg (u8s D0).toArray : Value)), (1, .agg (u8s D1).toArray), (2, .agg (u8s D2).toArray), (3, .agg (u8s D3).toArray)].toArray).run Tryz.prog W = .ok (.agg (u8s KK).toArray) W) := fun W => by rw [hk]; exact bld_kys D0 D1 D2 D3 l0 l1 l2 l3 W
  have hld : ∀ (W : World) (g o : Nat) (D : List UInt8), Blk W g 26 (u8s KK) → D.length = 32 → (KK.drop o).take 32 = D → (ldAt 26 (.pointer (some ⟨g, o, none⟩))).run Tryz.prog W = .ok (.agg (u8s D).toArray) W := fun W g o D hb hl he =>
    ldAt_run hb _ o (u8s D) (by rw [u8s_length, hl, u8s_drop, u8s_take, he]) _ Tryz.underlying26 rfl (by rw [u8s_length, hl]; exact hd24)
  have HD0 : Hid (∀ g W, Blk W g 26 (u8s KK) → (ldAt 26 (.pointer (some ⟨g, 0, none⟩))).run Tryz.prog W = .ok (.agg (u8s D0).toArray) W) := fun g W hb => hld W g 0 D0 hb l0 (by rw [hk, List.drop_zero, List.take_left' l0])
  have HD1 : Hid (∀ g W, Blk W g 26 (u8s KK) → (ldAt 26 (.pointer (some ⟨g, 32, none⟩))).run Tryz.prog W = .ok (.agg (u8s D1).toArray) W) := fun g W hb => hld W g 32 D1 hb l1 (by rw [hk, List.drop_left' l0, List.take_left' l1])
  have HD2 : Hid (∀ g W, Blk W g 26 (u8s KK) → (ldAt 26 (.pointer (some ⟨g, 64, none⟩))).run Tryz.prog W = .ok (.agg (u8s D2).toArray) W) := fun g W hb => hld W g 64 D2 hb l2 (by rw [hk, ← List.append_assoc, List.drop_left' (by rw [List.length_append, l0, l1]), List.take_left' l2])
  have HD3 : Hid (∀ g W, Blk W g 26 (u8s KK) → (ldAt 26 (.pointer (some ⟨g, 96, none⟩))).run Tryz.prog W = .ok (.agg (u8s D3).toArray) W) := fun g W hb => hld W g 96 D3 hb l3 (by rw [hk, ← List.append_assoc, ← List.append_assoc, List.drop_left' (by rw [List.length_append, List.length_append, l0, l1, l2]), List.take_of_length_le (by rw [l3]; exact Nat.le_refl _)])
  have HB0 : Hid (Blk (w.alloc (.cells Tryz.zeroCells41 41)) w.heap.size 41 (u8s (List.replicate 128 0))) := Blk.new' rfl zc67
  have HE0 : Hid (Below w.heap.size w (w.alloc (.cells Tryz.zeroCells41 41))) := (Below.refl _ w).alloc (Nat.le_refl _) _
  clear h hD0 hD1 hD2 hD3 l0 l1 l2 l3 hk hld hc
  go_enter Tryz.func37, Tryz.ntmps37
  go_upto_region 4 with (go_at_call 59; (refine (HDV.out _ _ (by exact (HR.out.alloc _).alloc _) (by exact (show Blk _ (w.heap.size + 1) 9 (strs lbls) from Blk.new' (by simp) rfl).rd 0 4 (by decide))).mono ?_); rintro e w1 ⟨g, rfl, hg, hb1, hB1⟩)
  have hB1' : Below w.heap.size w w1 := ((HE0.out.alloc (by simp) _).trans (hB1.mono (by simp; omega)))
  have HB1 := Lib.hid ((HB0.out.alloc _).below hB1 (by simp; omega))
  have HE1 := Lib.hid hB1'
  have HKD : Hid (Blk { w1 with drawn := w1.drawn + 1 } g 26 (u8s KK)) := hb1.drew
  have HGG : Hid (g ≠ w.heap.size) := by show _ ≠ _; simp at hg; omega
  clear hb1 hB1 hB1' hg
  go_wp2
  refine region_K (by kernel_rfl) 13 (fun W' => Blk W' g 26 (u8s KK)) ?_
  refine AnyK.pure 0 (v := .slice (some ⟨g, 0, none⟩) 4 4) rfl (by kernel_rfl) (fun _ _ _ h => h) rfl (fun _ => by kernel_rfl) (fun _ => HKD.out) ?_
  refine AnyK.pure 1 (v := .pointer (some ⟨g, 0, none⟩)) rfl (by kernel_rfl) (fun _ _ _ h => h) rfl (fun _ => (ex_idxS (t := 114) (e := 26) (x := .tmp 12) (y := .const (.int .i64 0)) (g := g) (off := 0) (n := 4) (c := 4) (p := 0) (sz := 32) (by rfl) (by kernel_rfl) rfl (by omega) Tryz.underlying114 sz32a)) (fun _ => HKD.out) ?_
  refine AnyK.load 2 (v := .agg (u8s D0).toArray) rfl (by kernel_rfl) (by kernel_rfl) (by kernel_rfl) (fun _ _ _ h => h) rfl (fun w' hw' => ex_loadS (x := .tmp 13) (by rfl) (by kernel_rfl) (HD0.out g w' hw')) HKD.out ?_
  refine AnyK.pure 3 (v := .slice (some ⟨g, 0, none⟩) 4 4) rfl (by kernel_rfl) (fun _ _ _ h => h) rfl (fun _ => by kernel_rfl) (fun _ => HKD.out) ?_
  refine AnyK.pure 4 (v := .pointer (some ⟨g, 32, none⟩)) rfl (by kernel_rfl) (fun _ _ _ h => h) rfl (fun _ => (ex_idxS (t := 114) (e := 26) (x := .tmp 15) (y := .const (.int .i64 1)) (g := g) (off := 0) (n := 4) (c := 4) (p := 1) (sz := 32) (by rfl) (by kernel_rfl) rfl (by omega) Tryz.underlying114 sz32a)) (fun _ => HKD.out) ?_
  refine AnyK.load 5 (v := .agg (u8s D1).toArray) rfl (by kernel_rfl) (by kernel_rfl) (by kernel_rfl) (fun _ _ _ h => h) rfl (fun w' hw' => ex_loadS (x := .tmp 16) (by rfl) (by kernel_rfl) (HD1.out g w' hw')) HKD.out ?_
  refine AnyK.pure 6 (v := .slice (some ⟨g, 0, none⟩) 4 4) rfl (by kernel_rfl) (fun _ _ _ h => h) rfl (fun _ => by kernel_rfl) (fun _ => HKD.out) ?_
  refine AnyK.pure 7 (v := .pointer (some ⟨g, 64, none⟩)) rfl (by kernel_rfl) (fun _ _ _ h => h) rfl (fun _ => (ex_idxS (t := 114) (e := 26) (x := .tmp 18) (y := .const (.int .i64 2)) (g := g) (off := 0) (n := 4) (c := 4) (p := 2) (sz := 32) (by rfl) (by kernel_rfl) rfl (by omega) Tryz.underlying114 sz32a)) (fun _ => HKD.out) ?_
  refine AnyK.load 8 (v := .agg (u8s D2).toArray) rfl (by kernel_rfl) (by kernel_rfl) (by kernel_rfl) (fun _ _ _ h => h) rfl (fun w' hw' => ex_loadS (x := .tmp 19) (by rfl) (by kernel_rfl) (HD2.out g w' hw')) HKD.out ?_
  refine AnyK.pure 9 (v := .slice (some ⟨g, 0, none⟩) 4 4) rfl (by kernel_rfl) (fun _ _ _ h => h) rfl (fun _ => by kernel_rfl) (fun _ => HKD.out) ?_
  refine AnyK.pure 10 (v := .pointer (some ⟨g, 96, none⟩)) rfl (by kernel_rfl) (fun _ _ _ h => h) rfl (fun _ => (ex_idxS (t := 114) (e := 26) (x := .tmp 21) (y := .const (.int .i64 3)) (g := g) (off := 0) (n := 4) (c := 4) (p := 3) (sz := 32) (by rfl) (by kernel_rfl) rfl (by omega) Tryz.underlying114 sz32a)) (fun _ => HKD.out) ?_
  refine AnyK.load 11 (v := .agg (u8s D3).toArray) rfl (by kernel_rfl) (by kernel_rfl) (by kernel_rfl) (fun _ _ _ h => h) rfl (fun w' hw' => ex_loadS (x := .tmp 22) (by rfl) (by kernel_rfl) (HD3.out g w' hw')) HKD.out ?_
  refine AnyK.pure 12 (v := .agg (u8s KK).toArray) rfl (by kernel_rfl) (fun _ _ _ h => h) rfl (fun _ => ex_bld 41 [(0, .tmp 14), (1, .tmp 17), (2, .tmp 20), (3, .tmp 23)] (by rfl) [(0, (.agg (u8s D0).toArray : Value)), (1, .agg (u8s D1).toArray), (2, .agg (u8s D2).toArray), (3, .agg (u8s D3).toArray)] (by kernel_rfl) (HBD.out _)) (fun _ => HKD.out) ?_
  refine AnyK.storeAll 13 w.heap.size (u8s KK) 41 (u8s (List.replicate 128 0)) (by rfl) rfl rfl (by rfl) (by kernel_rfl) (by kernel_rfl) (by kernel_rfl) HB1.out.drew (by rw [HKL.out]; exact hd67) (u8s_one _) (by rw [HKL.out, u8s_length, List.length_replicate]) (fun _ _ _ h => (by cases h)) ?_
  intro w2 hb2 ho2
  have HE2 := Lib.hid (ho2.below HE1.out.drew (Nat.le_refl _) HE1.out.size)
  refine AnyK.val 14 (v := .int .i64 0) (by rfl) (by kernel_rfl) rfl (by kernel_rfl) (fun h => (by cases h)) ?_
  refine AnyK.done (by kernel_rfl) ?_
  go_wp2
  exact bodyPost_ret (res_cell_tmp (p := 2) (u := 3) (ty := 41) rfl _ w.heap.size 41 (u8s KK) (by kernel_rfl) hb2 _ Tryz.underlying41 rfl (by rw [HKL.out]; exact hd67)) rfl ⟨by kernel_rfl, HE2.out⟩
end Go.Proofs.YtlbnibmcflmohaaGreat
namespace Go.Proofs.YtlbnibmcflmohaaGreat
open Go.RowKit
attribute [local go_sem ↓] ldq_67 ldq_b32
set_option maxRecDepth 100000 in
set_option maxHeartbeats 2000000 in
theorem stepof_any (al sec : List UInt8) (h1 : al.length = 32) (h2 : sec.length = 32) (w : World) :
    Calls Tryz.prog 16 #[.agg (u8s al).toArray, .agg (u8s sec).toArray] w fun e w' => e = .returned (.tuple #[.agg (stp al sec).cells.toArray, .int .i64 0]) ∧ Below w.heap.size w w' := by
  have hok := stp_ok h1 h2
  have HBD : Hid (∀ W, (Instr.build 43 [(0, (.agg (u8s (kys sec)).toArray : Value)), (1, .agg (u8s al).toArray), (2, .agg (u8s sec).toArray)].toArray).run Tryz.prog W = .ok (.agg (stp al sec).cells.toArray) W) := fun W => by
    have := bld_sp (stp al sec) hok W
    rwa [stp_keys] at this
  have HCL : Hid ((stp al sec).cells.length = 192) := Sp.cells_len hok
  have HC1 := Lib.hid (Sp.cells_one (stp al sec))
  generalize (stp al sec).cells = C at *
  have HKL : Hid ((u8s (kys sec)).length = 128) := by show _ = _; rw [u8s_length, kys_len]
  have HK1 : Hid (∀ v ∈ u8s (kys sec), v.oneCell' = true) := u8s_one _
  have HKO : Hid (∀ W A, Rd W A 32 (u8s sec) → Calls Tryz.prog 37 #[.slice A 32 32] W fun e w' => e = .returned (.tuple #[.agg (u8s (kys sec)).toArray, .int .i64 0]) ∧ Below W.heap.size W w') := fun W A h => keysof_any A 32 sec W h (by omega)
  have HAL : Hid ((u8s al).length = 32) := by show _ = _; rw [u8s_length, h1]
  have HSL : Hid ((u8s sec).length = 32) := by show _ = _; rw [u8s_length, h2]
  generalize u8s (kys sec) = KK at *
  generalize u8s al = AL at *
  generalize u8s sec = SE at *
  obtain ⟨W0, hW0⟩ : ∃ W0, W0 = ((w.alloc (.cells AL.toArray 26)).alloc (.cells SE.toArray 26)).alloc (.cells Tryz.zeroCells43 43) := ⟨_, rfl⟩
  have HA0 : Hid (Blk W0 w.heap.size 26 AL) := by rw [hW0]; exact ((Blk.new w _ _).alloc _).alloc _
  have HS0 : Hid (Blk W0 (w.heap.size + 1) 26 SE) := by rw [hW0]; exact (show Blk (((w.alloc (.cells AL.toArray 26)).alloc (.cells SE.toArray 26))) (w.heap.size + 1) 26 SE from Blk.new' (by simp) rfl).alloc _
  have HZ0 : Hid (Blk W0 (w.heap.size + 2) 43 (u8s (List.replicate 192 0))) := by rw [hW0]; exact Blk.new' (by simp) zcSp
  have HE0 : Hid (Below w.heap.size w W0) := by rw [hW0]; exact (((Below.refl _ w).alloc (Nat.le_refl _) _).alloc (by simp) _).alloc (by simp; omega) _
  have HR0 : Hid (Rd W0 (some ⟨w.heap.size + 1, 0, none⟩) 32 SE) := by have := HS0.out.rd 0 32 (by rw [HSL.out]; exact Nat.le_refl _); rwa [List.drop_zero, List.take_of_length_le (by rw [HSL.out]; exact Nat.le_refl _)] at this
  subst hW0
  clear h1 h2 hok
  go_enter Tryz.func16, Tryz.ntmps16
  go_wp2_with (first
    | (go_at_call 37; (refine (HKO.out _ _ (by exact HR0.out)).mono ?_); rintro e w1 ⟨rfl, hB1⟩
       have HE1 := qtr HE0 hB1; have HA1 := qbl HA0 hB1; have HS1 := qbl HS0 hB1; have HZ1 := qbl HZ0 hB1; clear hB1)
    | (refine wpList_store_all rfl 41 (.tmp 6) (.tmp 11) rfl w1.heap.size KK (by rfl) (by rfl) 41 (u8s (List.replicate 128 0)) (by exact Blk.new' rfl zc67) (by rw [HKL.out]; exact hd67) HK1.out (by rw [HKL.out, u8s_length, List.length_replicate]) ?_
       intro w2 hb2 ho2
       have HE2 := Lib.hid (ho2.below (HE1.out.alloc HE1.out.size _) HE1.out.size (Nat.le_trans HE1.out.size (by simp)))
       have HZ2 := qal ho2 HZ1 (by have := HZ1.out.lt; omega)
       have l1 := b32_ld (ho2.blk (HA1.out.alloc _) (by have := HA1.out.lt; omega)) HAL.out
       have l2 := b32_ld (ho2.blk (HS1.out.alloc _) (by have := HS1.out.lt; omega)) HSL.out
       have l3 : (ldAt 41 (.pointer (some ⟨w1.heap.size, 0, none⟩))).run Tryz.prog w2 = .ok (.agg KK.toArray) w2 := ldAt_run hb2 _ 0 KK (by rw [List.drop_zero, List.take_of_length_le (Nat.le_refl _)]) _ Tryz.underlying41 rfl (by rw [HKL.out]; exact hd67)
       clear hb2 ho2)
    | (refine wpList_build rfl 43 [(0, .tmp 17), (1, .tmp 18), (2, .tmp 19)] rfl _ (by rfl) (.agg C.toArray) (HBD.out _) ?_)
    | (refine wpList_store_all rfl 43 (.tmp 4) (.tmp 20) rfl (w.heap.size + 2) C (by rfl) (by rfl) 43 (u8s (List.replicate 192 0)) (by exact HZ2.out) (by rw [HCL.out]; exact hd69) HC1.out (by rw [HCL.out]; rfl) ?_
       intro w3 hb3 ho3
       have HE3 := Lib.hid (ho3.below HE2.out (by omega) HE2.out.size)))
  exact bodyPost_ret (res_cell_tmp rfl _ _ _ _ rfl hb3 _ Tryz.underlying43 rfl (by rw [HCL.out]; exact hd69)) rfl ⟨rfl, HE3.out⟩
end Go.Proofs.YtlbnibmcflmohaaGreat
