/- Part of the proof: ShQ. -/
import Derived.Test.YtlbnibmcflmohaaGreatPlx03
namespace Go.Proofs.YtlbnibmcflmohaaGreat
open Go.RowKit
section
variable {P : Program} {w : World} {ops : Array Oper} {rest : List Oper} {o : Oper} {a : Act} {K : Act → World → Prop} {Q : Exit → Act → World → Prop}
end
def hCells (st : List UInt32) (op : List UInt8) (n : Nat) (post : List Value) : List Value := u32s st ++ (u8s op ++ (.int .i64 n :: post))
theorem hCells_n {st : List UInt32} {op : List UInt8} {n : Nat} {post : List Value} (h1 : st.length = 8) (h2 : op.length = 64) : (hCells st op n post)[72]? = some (.int .i64 n) := by
  unfold hCells
  rw [List.getElem?_append_right (by rw [u32s_len]; omega), u32s_len, List.getElem?_append_right (by rw [u8s_length]; omega), u8s_length, h1, h2]
  rfl
theorem hCells_set_n {st : List UInt32} {op : List UInt8} {n m : Nat} {post : List Value} (h1 : st.length = 8) (h2 : op.length = 64) : (hCells st op n post).set 72 (.int .i64 m) = hCells st op m post := by
  unfold hCells
  rw [List.set_append_right _ _ (by rw [u32s_len]; omega), u32s_len, List.set_append_right _ _ (by rw [u8s_length]; omega), u8s_length, h1, h2]
  rfl
theorem hCells_len {st : List UInt32} {op : List UInt8} {n : Nat} {post : List Value} (h1 : st.length = 8) (h2 : op.length = 64) : (hCells st op n post).length = 73 + post.length := by
  unfold hCells
  simp [u32s_len, u8s_length, h1, h2]; omega
theorem hCells_st {st : List UInt32} {op : List UInt8} {n : Nat} {post : List Value} : ((hCells st op n post).drop 0).take (u32s st).length = u32s st := by
  unfold hCells; rw [List.drop_zero, List.take_left]
theorem ldq_144 (v : Value) : Instr.loadAt 55 v = ldAt 55 v := rfl
attribute [local go_sem ↓] ldq_144 stq_144
set_option maxRecDepth 100000 in
set_option maxHeartbeats 1000000 in
theorem before_small (g : Nat) (n : Int) (w : World) (hn : n < 64) : Calls Tryz.prog 93 #[.pointer (some ⟨g, 0, none⟩), .int .i64 n] w fun e w' => e = .returned (.agg (st8 Sh.start).toArray) ∧ Below w.heap.size w w' := by
  have HST := Lib.hid start_any
  have HI8 : Hid ((Tryz.prog.info? 55).map (·.size) = some (u32s Sh.start.list).length) := hd144
  have H1 : Hid (∀ v ∈ u32s Sh.start.list, v.oneCell' = true) := u32s_one _
  have HL : Hid ((u32s Sh.start.list).length = 8) := rfl
  obtain ⟨U, hU⟩ : ∃ U, U = u32s Sh.start.list := ⟨_, rfl⟩
  rw [← hU] at HST HI8 H1 HL
  have HE : Hid (U = st8 Sh.start) := hU
  clear hU
  go_enter Tryz.func93, Tryz.ntmps93
  go_wp2_with (first
    | (go_at_call 101; (with_reducible refine (HST.out _).mono ?_); rintro e w3 ⟨rfl, hB3⟩)
    | (refine wpList_store_all rfl 55 (.tmp 4) (.tmp 7) rfl w.heap.size U (by rfl) (by rfl) 55 (u32s [0, 0, 0, 0, 0, 0, 0, 0]) (by exact (Blk.new' rfl rfl : Blk _ w.heap.size _ _).below hB3 (by simp)) HI8.out H1.out (by rw [HL.out]; rfl) ?_; intro w4 hb4 ho4))
  exact bodyPost_ret (res_cell rfl _ w.heap.size _ U rfl hb4 _ Tryz.underlying55 rfl HI8.out) rfl ⟨by rw [HE.out], ho4.below (((Below.refl _ _).alloc (Nat.le_refl _) _).trans (hB3.mono (by simp))) (Nat.le_refl _) (by have := hB3.size; simp at this; omega)⟩
set_option maxRecDepth 100000 in
set_option maxHeartbeats 1000000 in
theorem before_big (g : Nat) (T : TypeId) (st : List UInt32) (op : List UInt8) (m : Nat) (post : List Value) (n : Int) (w : World) (hn : 64 ≤ n) (hb : Blk w g T (hCells st op m post)) (hs : st.length = 8) : Calls Tryz.prog 93 #[.pointer (some ⟨g, 0, none⟩), .int .i64 n] w fun e w' => e = .returned (.agg (u32s st).toArray) ∧ Below w.heap.size w w' := by
  have HI8 : Hid ((Tryz.prog.info? 55).map (·.size) = some (u32s st).length) := by rw [u32s_len, hs]; exact hd144
  have H1 : Hid (∀ v ∈ u32s st, v.oneCell' = true) := u32s_one _
  have HL : Hid ((u32s st).length = 8) := by show _ = _; rw [u32s_len, hs]
  have hld := ldAt_run (P := Tryz.prog) (hb.alloc (.cells (u32s [0, 0, 0, 0, 0, 0, 0, 0]).toArray 55)) 55 0 (u32s st) hCells_st _ Tryz.underlying55 rfl HI8.out
  have hlt := hb.lt
  obtain ⟨U, hU⟩ : ∃ U, U = u32s st := ⟨_, rfl⟩
  rw [← hU] at HI8 H1 HL hld
  have HE := Lib.hid hU
  have HB := Lib.hid hb
  clear hU hb
  have hn' : ¬ n < 64 := by omega
  have hz : Blk (w.alloc (.cells (u32s [0, 0, 0, 0, 0, 0, 0, 0]).toArray 55)) w.heap.size 55 (u32s [0, 0, 0, 0, 0, 0, 0, 0]) := Blk.new w _ _
  have HLD : Hid ((ldAt 55 (.pointer (some ⟨g, 0, none⟩))).run Tryz.prog (w.alloc (.cells #[.int .u32 0, .int .u32 0, .int .u32 0, .int .u32 0, .int .u32 0, .int .u32 0, .int .u32 0, .int .u32 0] 55)) = .ok (.agg U.toArray) (w.alloc (.cells #[.int .u32 0, .int .u32 0, .int .u32 0, .int .u32 0, .int .u32 0, .int .u32 0, .int .u32 0, .int .u32 0] 55))) := hld
  clear hld hz
  have hld := HLD.out
  go_enter Tryz.func93, Tryz.ntmps93
  go_wp2_with (first
    | (refine wpList_store_all rfl 55 (.tmp 4) (.tmp 11) rfl w.heap.size U (by rfl) (by rfl) 55 (u32s [0, 0, 0, 0, 0, 0, 0, 0]) (by exact Blk.new' rfl rfl) HI8.out H1.out (by rw [HL.out]; rfl) ?_; intro w4 hb4 ho4))
  exact bodyPost_ret (res_cell rfl _ w.heap.size _ U rfl hb4 _ Tryz.underlying55 rfl HI8.out) rfl ⟨by rw [HE.out], ho4.below ((Below.refl _ _).alloc (Nat.le_refl _) _) (Nat.le_refl _) (by simp)⟩
end Go.Proofs.YtlbnibmcflmohaaGreat
/- sha.Hash.add: bytes behind what is there. -/
namespace Go.Proofs.YtlbnibmcflmohaaGreat
open Go.RowKit
def HashIn (w : World) (g : Nat) (T : TypeId) (post : List Value) (l : List UInt8) : Prop := ∃ st op, Blk w g T (hCells st op l.length post) ∧ Sh.HSt l st op
theorem HashIn.below {w w' : World} {g : Nat} {T : TypeId} {post : List Value} {l : List UInt8} (h : HashIn w g T post l) (hb : Below w.heap.size w w') : HashIn w' g T post l := by
  obtain ⟨st, op, h1, h2⟩ := h
  exact ⟨st, op, h1.below hb h1.lt, h2⟩
theorem HashIn.lt {w : World} {g : Nat} {T : TypeId} {post : List Value} {l : List UInt8} (h : HashIn w g T post l) : g < w.heap.size := by
  obtain ⟨st, op, h1, h2⟩ := h
  exact h1.lt
theorem u8_one1 : (Tryz.prog.info? 5).map (·.size) = some 1 := by kernel_rfl
theorem al145 : Tryz.prog.arrayLen 126 = 64 := by kernel_rfl
theorem sz145 (w : World) : (sizeOf (Tryz.prog.elem 126)).run Tryz.prog w = .ok 1 w := by kernel_rfl
theorem sl145 (g o f : Nat) (hf : f < 64) (w : World) : (Instr.sliceAt 126 (.pointer (some ⟨g, o, none⟩)) (some (.int .i64 f)) none none).run Tryz.prog w = .ok (.slice (some ⟨g, o + f, none⟩) (64 - f) (64 - f)) w := by
  have h1 : (f : Int) ≤ Tryz.prog.arrayLen 126 := by rw [al145]; omega
  rw [run_sliceAt_array_l (P := Tryz.prog) (t := 126) w ⟨g, o, none⟩ (by kernel_rfl) .i64 f (by omega) h1, sz145, al145]
  simp only [Result.andThen_ok, slicedAt, Int.toNat_natCast, Nat.mul_one, if_neg (show ¬ 64 = f by omega), Addr.add_mid]
theorem hCells_open {st : List UInt32} {op : List UInt8} {n : Nat} {post : List Value} (h1 : st.length = 8) (h2 : op.length = 64) (f : Nat) (r : List UInt8) (hf : f + r.length ≤ 64) : splice (hCells st op n post) (8 + f) (u8s r) = hCells st (splice op f r) n post := by
  unfold hCells splice
  have e1 : (u32s st).length = 8 := by rw [u32s_len, h1]
  rw [List.take_append, List.drop_append, e1, show 8 + f - 8 = f by omega, List.take_of_length_le (by omega), List.drop_of_length_le (l := u32s st) (by rw [u8s_length]; omega), u8s_length, show 8 + f + r.length - 8 = f + r.length by omega,
    List.take_append_of_le_length (by rw [u8s_length]; omega), List.drop_append_of_le_length (by rw [u8s_length]; omega)]
  simp [u8s_append, u8s_take, u8s_drop, List.append_assoc]
theorem hCells_mid {st : List UInt32} {op : List UInt8} {n : Nat} {post : List Value} (h1 : st.length = 8) (h2 : op.length = 64) : ((hCells st op n post).drop 8).take 64 = u8s op := by
  unfold hCells
  have e1 : (u32s st).length = 8 := by rw [u32s_len, h1]
  rw [List.drop_append_of_le_length (by omega), List.drop_of_length_le (by omega), List.nil_append, List.take_append_of_le_length (by rw [u8s_length]; omega), List.take_of_length_le (by rw [u8s_length]; omega)]
theorem hCells_state {st st' : List UInt32} {op : List UInt8} {n : Nat} {post : List Value} (h1 : st.length = 8) (h2 : st'.length = 8) : splice (hCells st op n post) 0 (u32s st') = hCells st' op n post := by
  unfold hCells splice
  have e1 : (u32s st).length = 8 := by rw [u32s_len, h1]
  rw [List.take_zero, List.nil_append, u32s_len, h2, Nat.zero_add, List.drop_append_of_le_length (by omega), List.drop_of_length_le (by omega), List.nil_append]
attribute [local go_sem ↓] ldq_144 stq_144
set_option maxRecDepth 100000 in
set_option maxHeartbeats 4000000 in
theorem add_any (g : Nat) (T : TypeId) (post : List Value) (l p : List UInt8) (A : Option Addr) (n c : Nat) (w : World) (h : HashIn w g T post l) (hr : Rd w A n (u8s p)) (hc : n ≤ c) (hA : 0 < n → ∀ ad : Addr, A = some ad → ad.block ≠ g) (hl : l.length + n ≤ 1099511627776) :
    Calls Tryz.prog 82 #[.pointer (some ⟨g, 0, none⟩), .slice A n c] w fun e w' => e = .returned (.tuple #[]) ∧ HashIn w' g T post (l ++ p) ∧ Wrote g w w' := by
  have HP := Lib.hid hr.len
  go_enter Tryz.func82, Tryz.ntmps82
  go_wp2_with fail
  go_loopg [1] n (fun k q wr => ∃ (j : Nat) (A' : Option Addr) (m c' : Nat), k = m ∧ m + j = n ∧ q = .slice A' m c' ∧ m ≤ c' ∧ Rd wr A' m (u8s (p.drop j)) ∧ (0 < m → ∀ ad : Addr, A' = some ad → ad.block ≠ g) ∧ HashIn wr g T post (l ++ p.take j) ∧ Wrote g w wr)
  case atStart => exact ⟨0, A, n, c, rfl, by omega, rfl, hc, by simpa using hr, hA, by simpa using h, Wrote.refl _ _⟩
  case round =>
    clear h hr hA hc
    obtain ⟨j, A', m, c', hgk, hmj, rfl, hmc, hr, hA, hin, hW⟩ := hrel
    have HGK := Lib.hid hgk
    clear hgk
    by_cases h0 : 0 < m
    · obtain ⟨st, op, hb, hst⟩ := hin
      obtain ⟨L, hL⟩ : ∃ L, L = l ++ p.take j := ⟨_, rfl⟩
      rw [← hL] at hb hst
      have HLE := Lib.hid hL
      obtain ⟨N, hN⟩ : ∃ N, L.length = N := ⟨_, rfl⟩
      have hN2 : N + m ≤ 1099511627776 := by rw [← hN, hL]; simp [HP.out]; omega
      rw [hN] at hb
      have HN := Lib.hid hN
      have HST := Lib.hid hst
      obtain ⟨b, o, rfl, hbl, _⟩ := hr.2 h0
      have hbg : b ≠ g := hA h0 _ rfl
      have c72 := (hb.cell 72).trans (hCells_n hst.len hst.olen)
      obtain ⟨f, hf⟩ : ∃ f, N % 64 = f := ⟨_, rfl⟩
      have hf64 : f < 64 := by omega
      have hfi : (N : Int) % 64 = (f : Int) := by omega
      have hsl := sl145 g 8 f hf64 wr
      obtain ⟨q, hq⟩ : ∃ q, q = p.drop j := ⟨_, rfl⟩
      rw [← hq] at hr
      have hql : q.length = m := hr.len
      obtain ⟨d, hd⟩ : ∃ d, min (64 - f) m = d := ⟨_, rfl⟩
      have hd1 : d ≤ m := by omega
      have hd2 : d ≤ 64 - f := by omega
      have hd0 : 0 < d := by omega
      have htk : (u8s q).take (64 - f) = u8s (q.take d) := by
        rw [u8s_take]
        rcases Nat.le_total (64 - f) m with h | h
        · rw [show 64 - f = d by omega]
        · rw [List.take_of_length_le (by omega), List.take_of_length_le (by omega)]
      have htl : (u8s (q.take d)).length = d := by rw [u8s_length, List.length_take]; omega
      have HTK := Lib.hid htk
      have HTL := Lib.hid htl
      have HMN : Hid (min (64 - f) (u8s q).length = d) := by rw [u8s_length, hql]; exact hd
      have HF : Hid (L.length % 64 = f) := by show _ = _; rw [hN]; exact hf
      have HQ := Lib.hid hq
      have HR := Lib.hid hr
      have hlen := hCells_len (n := N) (post := post) hst.len hst.olen
      have HC1 : Hid (8 + f + (64 - f) ≤ (hCells st op N post).length) := by rw [hlen]; show _ ≤ _; omega
      have HSP : Hid (splice (hCells st op N post) (8 + f) (u8s (q.take d)) = hCells st (splice op f (q.take d)) N post) := hCells_open hst.len hst.olen f _ (by rw [List.length_take]; omega)
      have HD := Lib.hid hd
      have HQL := Lib.hid hql
      clear hL hN hst hf hq hr htk htl hlen hd hql
      have HB := Lib.hid hb
      clear hb
      go_wp2_with (refine wpList_copy rfl (.tmp 18) (.tmp 19) 23 rfl 5 Tryz.underlying23 u8_one1 g (8 + f) (64 - f) (64 - f) (by rfl) (some ⟨b, o, none⟩) m c' (by rfl) T (hCells st op N post) HB.out (u8s q) HR.out (u8s_one _) HC1.out ?_)
      rw [HTK.out, HMN.out]
      intro w1 hb1 ho1
      rw [HSP.out] at hb1
      have hr1 : Rd w1 (some ⟨b, o, none⟩) m (u8s q) := ho1.rd HR.out (fun ad e => by injection e with e; subst e; exact hbg)
      have hW1 := Lib.hid (hW.only ho1)
      have hso : (splice op f (q.take d)).length = 64 := by rw [length_splice _ _ _ (by have := HST.out.olen; rw [List.length_take]; omega)]; exact HST.out.olen
      have HSO := Lib.hid hso
      have c72' := (hb1.cell 72).trans (hCells_n HST.out.len hso)
      have f72 := hb1.frozen 72
      have hb2 : Hid (Blk (w1.setCell ⟨g, 72, none⟩ (.int .i64 ((N + d : Nat) : Int))) g T (hCells st (splice op f (q.take d)) (N + d) post)) := by
        have := hb1.set_ 72 (.int .i64 ((N + d : Nat) : Int))
        rw [hCells_set_n HST.out.len hso] at this
        exact this
      have hW2 := Lib.hid (hW1.out.setCell 72 (.int .i64 ((N + d : Nat) : Int)))
      have hdl := hb1.lt
      have HQR : Hid (∀ A2, (0 < m - d → A2 = some ⟨b, o + d, none⟩) → Rd w1 A2 (m - d) (u8s (q.drop d))) := fun A2 h2 => by
        have := hr1.cut (A' := A2) (m := m) (k := d) (Nat.le_refl _) hd1 (fun hk b' o' e => by injection e with e; injection e with e1 e2; subst e1; subst e2; exact h2 (by omega))
        rw [List.take_of_length_le (by rw [u8s_length, HQL.out]; exact Nat.le_refl _), u8s_drop] at this
        exact this
      have HRG : Hid (∀ A2, Rd w1 A2 (m - d) (u8s (q.drop d)) → (∀ ad : Addr, A2 = some ad → ad.block ≠ g) → Rd (w1.setCell ⟨g, 72, none⟩ (.int .i64 ((N + d : Nat) : Int))) A2 (m - d) (u8s (q.drop d))) := fun A2 h1 h2 => Rd.wrote h1 ((Wrote.refl w1 g).setCell 72 _) (fun _ => h2)
      have HDD : Hid (q.drop d = p.drop (j + d)) := by show _ = _; rw [HQ.out, List.drop_drop]
      have HTT : Hid (L ++ q.take d = l ++ p.take (j + d)) := by
        show _ = _
        rw [HLE.out, HQ.out, List.append_assoc, ← List.take_add]
      have HNL : Hid ((L ++ q.take d).length = N + d) := by
        show _ = _
        rw [List.length_append, HN.out, List.length_take, HQL.out]; omega
      clear hso hb1 ho1 hr1 hsl hfi c72
      have hcast : ((N + d : Nat) : Int) = (N : Int) + (d : Int) := by omega
      have hd64 : (d : Int) ≤ (m : Int) := by omega
      have hdc : (d : Int) ≤ (c' : Int) := by omega
      rw [hcast] at hb2 hW2 HRG
      by_cases hcd : c' = d
      · have hmd : m = d := by omega
        by_cases h64 : f + d = 64
        · have e64 : (((f : Int) + (d : Int)) == 64) = true := by rw [beq_iff_eq]; omega
          have HP2 : Hid (Sh.HSt (L ++ q.take d) (Sh.comp (Sh.fold L (L.length / 64)) (splice op f (q.take d))).list (splice op f (q.take d))) := by have := HST.out.full (p := q) d (by rw [HQL.out]; exact hd1) (by rw [HF.out]; exact h64); rw [HF.out] at this; exact this
          obtain ⟨F, hF⟩ : ∃ F, F = Sh.fold L (L.length / 64) := ⟨_, rfl⟩
          have HBF : Hid (∀ W, Blk W g T (hCells st (splice op f (q.take d)) (N + d) post) → Calls Tryz.prog 93 #[.pointer (some ⟨g, 0, none⟩), .int .i64 ((N : Int) + (d : Int) - 64)] W fun e w' => e = .returned (.agg (st8 F).toArray) ∧ Below W.heap.size W w') := fun W hbW => by
            by_cases hk : N < 64
            · have : F = Sh.start := by rw [hF]; exact Sh.fold_small (by rw [HN.out]; exact hk)
              rw [this]
              exact before_small g _ W (by omega)
            · have : st = F.list := by rw [hF]; exact HST.out.state (by rw [HN.out]; omega)
              have h2 := before_big g T st _ _ post ((N : Int) + (d : Int) - 64) W (by have h3 := HF.out; rw [HN.out] at h3; omega) hbW HST.out.len
              rw [this] at h2
              exact h2
          have HCP : Hid (∀ W, Blk W g T (hCells st (splice op f (q.take d)) (N + d) post) → Calls Tryz.prog 92 #[.agg (st8 F).toArray, .slice (some ⟨g, 8, none⟩) 64 64] W fun e w' => e = .returned (.tuple #[.agg (st8 (Sh.comp F (splice op f (q.take d)))).toArray, .int .i64 0]) ∧ Below W.heap.size W w') := fun W hbW => compress_any F _ 64 _ W (by
            have := hbW.rd 8 64 (by rw [hCells_len HST.out.len HSO.out]; omega)
            rwa [hCells_mid HST.out.len HSO.out] at this)
          rw [← hF] at HP2
          have HG1 : Hid (∀ v ∈ st8 (Sh.comp F (splice op f (q.take d))), v.oneCell' = true) := by rw [st8_list]; exact u32s_one _
          have HG2 : Hid ((Tryz.prog.info? 55).map (·.size) = some (st8 (Sh.comp F (splice op f (q.take d)))).length) := hd144
          have HG3 : Hid (0 + (st8 (Sh.comp F (splice op f (q.take d)))).length ≤ (hCells st (splice op f (q.take d)) (N + d) post).length) := by rw [hCells_len HST.out.len HSO.out]; show 0 + 8 ≤ _; omega
          have HG4 : Hid (splice (hCells st (splice op f (q.take d)) (N + d) post) 0 (st8 (Sh.comp F (splice op f (q.take d)))) = hCells (Sh.comp F (splice op f (q.take d))).list (splice op f (q.take d)) (N + d) post) := by rw [st8_list]; exact hCells_state HST.out.len rfl
          obtain ⟨G, hG⟩ : ∃ G, G = st8 (Sh.comp F (splice op f (q.take d))) := ⟨_, rfl⟩
          rw [← hG] at HCP HG1 HG2 HG3 HG4
          obtain ⟨F8, hF8⟩ : ∃ F8, F8 = st8 F := ⟨_, rfl⟩
          rw [← hF8] at HBF HCP
          clear hF hG hF8
          go_wp2_with fail
          have hg72 : (w1.setCell ⟨g, 72, none⟩ (.int .i64 ((N : Int) + (d : Int)))).cell? ⟨g, 72, none⟩ = some (.int .i64 ((N : Int) + (d : Int))) := by
            have := (hb2.out.cell 72).trans (hCells_n HST.out.len HSO.out)
            rw [hcast] at this
            exact this
          obtain ⟨w2, hw2⟩ : ∃ w2, w2 = w1.setCell ⟨g, 72, none⟩ (.int .i64 ((N : Int) + (d : Int))) := ⟨_, rfl⟩
          rw [← hw2] at hb2 hW2 HRG hg72 ⊢
          clear hw2
          have hw64 : IntKind.i64.wrap ((N : Int) + (d : Int) - 64) = (N : Int) + (d : Int) - 64 := IntWalk.i64_in _ (by omega)
          go_region_held3 (fun W' => W'.cell? ⟨g, 72, none⟩ = some (.int .i64 ((N : Int) + (d : Int)))) (first | assumption | exact hg72 | exact hg3 | exact hg4 | exact hg5) (first
            | (go_at_call 93; (with_reducible refine (HBF.out _ (by exact hb2.out.drew)).mono ?_); rintro e w3 ⟨rfl, hB3⟩; have hb3 := Lib.hid (hb2.out.drew.below hB3 hb2.out.lt); have hg3 := (hB3.cell (p := ⟨g, 72, none⟩) (by exact hb2.out.lt)).trans hg72)
            | (go_at_call 92; (with_reducible refine (HCP.out _ (by exact hb3.out)).mono ?_); rintro e w4 ⟨rfl, hB4⟩; have hb4 := qbl hb3 hB4; have hg4 := (hB4.cell (p := ⟨g, 72, none⟩) (by exact hb3.out.lt)).trans hg3; have hst4 := stAt_run (P := Tryz.prog) hb4.out 55 0 G HG3.out HG1.out HG2.out; have hg5 : (w4.setCells g 0 G).cell? ⟨g, 72, none⟩ = some (.int .i64 ((N : Int) + (d : Int))) := by { have h5 := setCells_heap g _ G 0 _ _ hb4.out HG3.out; rw [HG4.out] at h5; rw [← hcast]; exact (h5.cell 72).trans (hCells_n rfl HSO.out) }))
          have hb5 := Lib.hid (setCells_heap g _ G 0 _ _ hb4.out HG3.out)
          rw [HG4.out] at hb5
          have hW5 := Lib.hid ((((hW2.out.drew).then hB3).then hB4).only (Only.of_setCells w4 g 0 G))
          have hW25 := Lib.hid (((((Wrote.refl w2 g).drew).then hB3).then hB4).only (Only.of_setCells w4 g 0 G))
          clear hst4 hw64 hg72 hg3 hg4 hg5
          go_wp2_with fail
          go_roundg (m - d)
          case measure => have := HGK.out; omega
          case rel => exact ⟨j + d, some ⟨b, o, none⟩, 0, 0, by omega, by omega, rfl, by omega, (by have hx := Rd.wrote (HRG.out _ (HQR.out (some ⟨b, o, none⟩) (fun h => absurd h (by omega))) (fun ad e => by injection e with e; subst e; exact hbg)) hW25.out (fun _ ad e => by injection e with e; subst e; exact hbg); rw [show m - d = 0 by omega] at hx; rw [← HDD.out]; exact hx), fun _ ad e => by injection e with e; subst e; exact hbg, (by rw [← HTT.out]; exact ⟨_, _, by rw [HNL.out]; exact hb5.out, HP2.out⟩), hW5.out⟩
        · have e64 : (((f : Int) + (d : Int)) == 64) = false := by rw [beq_eq_false_iff_ne]; omega
          have HP2 : Hid (Sh.HSt (L ++ q.take d) st (splice op f (q.take d))) := by have := HST.out.part (p := q) d (by rw [HQL.out]; exact hd1) (by rw [HF.out]; omega); rw [HF.out] at this; exact this
          go_wp2_with fail
          go_roundg (m - d)
          case measure => have := HGK.out; omega
          case rel => exact ⟨j + d, some ⟨b, o, none⟩, 0, 0, by omega, by omega, rfl, by omega, (by rw [← HDD.out]; have hx := HRG.out _ (HQR.out (some ⟨b, o, none⟩) (fun h => absurd h (by omega))) (fun ad e => by injection e with e; subst e; exact hbg); rw [show m - d = 0 by omega] at hx; exact hx), fun _ ad e => by injection e with e; subst e; exact hbg, (by rw [← HTT.out]; exact ⟨st, _, by rw [HNL.out]; exact hb2.out, HP2.out⟩), hW2.out⟩
      · by_cases h64 : f + d = 64
        · have e64 : (((f : Int) + (d : Int)) == 64) = true := by rw [beq_iff_eq]; omega
          have HP2 : Hid (Sh.HSt (L ++ q.take d) (Sh.comp (Sh.fold L (L.length / 64)) (splice op f (q.take d))).list (splice op f (q.take d))) := by have := HST.out.full (p := q) d (by rw [HQL.out]; exact hd1) (by rw [HF.out]; exact h64); rw [HF.out] at this; exact this
          obtain ⟨F, hF⟩ : ∃ F, F = Sh.fold L (L.length / 64) := ⟨_, rfl⟩
          have HBF : Hid (∀ W, Blk W g T (hCells st (splice op f (q.take d)) (N + d) post) → Calls Tryz.prog 93 #[.pointer (some ⟨g, 0, none⟩), .int .i64 ((N : Int) + (d : Int) - 64)] W fun e w' => e = .returned (.agg (st8 F).toArray) ∧ Below W.heap.size W w') := fun W hbW => by
            by_cases hk : N < 64
            · have : F = Sh.start := by rw [hF]; exact Sh.fold_small (by rw [HN.out]; exact hk)
              rw [this]
              exact before_small g _ W (by omega)
            · have : st = F.list := by rw [hF]; exact HST.out.state (by rw [HN.out]; omega)
              have h2 := before_big g T st _ _ post ((N : Int) + (d : Int) - 64) W (by have h3 := HF.out; rw [HN.out] at h3; omega) hbW HST.out.len
              rw [this] at h2
              exact h2
          have HCP : Hid (∀ W, Blk W g T (hCells st (splice op f (q.take d)) (N + d) post) → Calls Tryz.prog 92 #[.agg (st8 F).toArray, .slice (some ⟨g, 8, none⟩) 64 64] W fun e w' => e = .returned (.tuple #[.agg (st8 (Sh.comp F (splice op f (q.take d)))).toArray, .int .i64 0]) ∧ Below W.heap.size W w') := fun W hbW => compress_any F _ 64 _ W (by
            have := hbW.rd 8 64 (by rw [hCells_len HST.out.len HSO.out]; omega)
            rwa [hCells_mid HST.out.len HSO.out] at this)
          rw [← hF] at HP2
          have HG1 : Hid (∀ v ∈ st8 (Sh.comp F (splice op f (q.take d))), v.oneCell' = true) := by rw [st8_list]; exact u32s_one _
          have HG2 : Hid ((Tryz.prog.info? 55).map (·.size) = some (st8 (Sh.comp F (splice op f (q.take d)))).length) := hd144
          have HG3 : Hid (0 + (st8 (Sh.comp F (splice op f (q.take d)))).length ≤ (hCells st (splice op f (q.take d)) (N + d) post).length) := by rw [hCells_len HST.out.len HSO.out]; show 0 + 8 ≤ _; omega
          have HG4 : Hid (splice (hCells st (splice op f (q.take d)) (N + d) post) 0 (st8 (Sh.comp F (splice op f (q.take d)))) = hCells (Sh.comp F (splice op f (q.take d))).list (splice op f (q.take d)) (N + d) post) := by rw [st8_list]; exact hCells_state HST.out.len rfl
          obtain ⟨G, hG⟩ : ∃ G, G = st8 (Sh.comp F (splice op f (q.take d))) := ⟨_, rfl⟩
          rw [← hG] at HCP HG1 HG2 HG3 HG4
          obtain ⟨F8, hF8⟩ : ∃ F8, F8 = st8 F := ⟨_, rfl⟩
          rw [← hF8] at HBF HCP
          clear hF hG hF8
          go_wp2_with fail
          have hg72 : (w1.setCell ⟨g, 72, none⟩ (.int .i64 ((N : Int) + (d : Int)))).cell? ⟨g, 72, none⟩ = some (.int .i64 ((N : Int) + (d : Int))) := by
            have := (hb2.out.cell 72).trans (hCells_n HST.out.len HSO.out)
            rw [hcast] at this
            exact this
          obtain ⟨w2, hw2⟩ : ∃ w2, w2 = w1.setCell ⟨g, 72, none⟩ (.int .i64 ((N : Int) + (d : Int))) := ⟨_, rfl⟩
          rw [← hw2] at hb2 hW2 HRG hg72 ⊢
          clear hw2
          have hw64 : IntKind.i64.wrap ((N : Int) + (d : Int) - 64) = (N : Int) + (d : Int) - 64 := IntWalk.i64_in _ (by omega)
          go_region_held3 (fun W' => W'.cell? ⟨g, 72, none⟩ = some (.int .i64 ((N : Int) + (d : Int)))) (first | assumption | exact hg72 | exact hg3 | exact hg4 | exact hg5) (first
            | (go_at_call 93; (with_reducible refine (HBF.out _ (by exact hb2.out.drew)).mono ?_); rintro e w3 ⟨rfl, hB3⟩; have hb3 := Lib.hid (hb2.out.drew.below hB3 hb2.out.lt); have hg3 := (hB3.cell (p := ⟨g, 72, none⟩) (by exact hb2.out.lt)).trans hg72)
            | (go_at_call 92; (with_reducible refine (HCP.out _ (by exact hb3.out)).mono ?_); rintro e w4 ⟨rfl, hB4⟩; have hb4 := qbl hb3 hB4; have hg4 := (hB4.cell (p := ⟨g, 72, none⟩) (by exact hb3.out.lt)).trans hg3; have hst4 := stAt_run (P := Tryz.prog) hb4.out 55 0 G HG3.out HG1.out HG2.out; have hg5 : (w4.setCells g 0 G).cell? ⟨g, 72, none⟩ = some (.int .i64 ((N : Int) + (d : Int))) := by { have h5 := setCells_heap g _ G 0 _ _ hb4.out HG3.out; rw [HG4.out] at h5; rw [← hcast]; exact (h5.cell 72).trans (hCells_n rfl HSO.out) }))
          have hb5 := Lib.hid (setCells_heap g _ G 0 _ _ hb4.out HG3.out)
          rw [HG4.out] at hb5
          have hW5 := Lib.hid ((((hW2.out.drew).then hB3).then hB4).only (Only.of_setCells w4 g 0 G))
          have hW25 := Lib.hid (((((Wrote.refl w2 g).drew).then hB3).then hB4).only (Only.of_setCells w4 g 0 G))
          clear hst4 hw64 hg72 hg3 hg4 hg5
          go_wp2_with fail
          go_roundg (m - d)
          case measure => have := HGK.out; omega
          case rel => exact ⟨j + d, some ⟨b, o + d, none⟩, m - d, c' - d, rfl, by omega, rfl, by omega, (by rw [← HDD.out]; exact Rd.wrote (HRG.out _ (HQR.out (some ⟨b, o + d, none⟩) (fun h => rfl)) (fun ad e => by injection e with e; subst e; exact hbg)) hW25.out (fun _ ad e => by injection e with e; subst e; exact hbg)), fun _ ad e => by injection e with e; subst e; exact hbg, (by rw [← HTT.out]; exact ⟨_, _, by rw [HNL.out]; exact hb5.out, HP2.out⟩), hW5.out⟩
        · have e64 : (((f : Int) + (d : Int)) == 64) = false := by rw [beq_eq_false_iff_ne]; omega
          have HP2 : Hid (Sh.HSt (L ++ q.take d) st (splice op f (q.take d))) := by have := HST.out.part (p := q) d (by rw [HQL.out]; exact hd1) (by rw [HF.out]; omega); rw [HF.out] at this; exact this
          go_wp2_with fail
          go_roundg (m - d)
          case measure => have := HGK.out; omega
          case rel => exact ⟨j + d, some ⟨b, o + d, none⟩, m - d, c' - d, rfl, by omega, rfl, by omega, (by rw [← HDD.out]; exact HRG.out _ (HQR.out (some ⟨b, o + d, none⟩) (fun h => rfl)) (fun ad e => by injection e with e; subst e; exact hbg)), fun _ ad e => by injection e with e; subst e; exact hbg, (by rw [← HTT.out]; exact ⟨st, _, by rw [HNL.out]; exact hb2.out, HP2.out⟩), hW2.out⟩
    · obtain rfl : m = 0 := by omega
      have HE : Hid (l ++ p.take j = l ++ p) := by show _ = _; rw [List.take_of_length_le (by rw [HP.out]; omega)]
      have hin' := Lib.hid hin
      rw [HE.out] at hin'
      have hm0 : ¬ (0 : Int) < ((0 : Nat) : Int) := by omega
      go_wp2_with fail
      go_end0
      exact ⟨rfl, hin'.out, hW⟩
end Go.Proofs.YtlbnibmcflmohaaGreat
