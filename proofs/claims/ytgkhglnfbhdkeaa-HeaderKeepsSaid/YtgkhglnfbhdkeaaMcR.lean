/- make of elements whose zero cells are all alike; strings as bytes. -/
import Derived.Test.YtgkhglnfbhdkeaaCodec
import Derived.Lib.ConvBytes
import Derived.Lib.AtoiErrMem
import Derived.Test.YtgkhglnfbhdkeaaMcQ
import Derived.Test.YtgkhglnfbhdkeaaChQ
import Derived.Test.YtgkhglnfbhdkeaaPln
import Derived.Lib.SlBytesConst
namespace Go.Proofs.Ytgkhglnfbhdkeaa
open Go.RowKit

theorem madeCells_alike (sz : Nat) (v : Value) (h : 0 < sz) (N : Nat) : madeCells (List.replicate sz v).toArray N = (rep N v).toArray := by
  unfold madeCells rep
  apply Array.ext'
  simp only [Array.toList_map, Array.toList_range, List.size_toArray, List.length_replicate]
  apply List.ext_getElem?
  intro i
  rw [List.getElem?_map, List.getElem?_replicate]
  by_cases hi : i < N
  · have hm : i % sz < sz := Nat.mod_lt _ h
    rw [List.getElem?_range hi, if_pos hi]
    simp [hm]
  · rw [if_neg hi, List.getElem?_eq_none (by simpa using hi)]
    rfl
section
variable {P : Program} {w : World} {ops : Array Oper} {rest : List Oper} {o : Oper} {a : Act} {K : Act → World → Prop} {Q : Exit → Act → World → Prop}
/-- make([]T, n, c) of elements of sz cells, all alike -/
theorem wp_makeZ (x y : Operand) (t : TypeId) (ho : o.op = .makeSlice t x y) (e : TypeId) (z : Value) (bytes sz : Nat) (z0 : Value) (ht : P.underlying t = some (.slice e)) (hi : (P.info? e).map (fun i => (i.zero, i.size, i.bytes)) = some (some z, sz, bytes)) (hz : z.cells = (List.replicate sz z0).toArray) (hsz : 0 < sz)
    (kl kc : IntKind) (ln lc : Int) (hx : a.eval x = .int kl ln) (hy : a.eval y = .int kc lc) (n c : Nat) (hn : ln = n) (hc : lc = c) (hnc : n ≤ c) (hbytes : bytes * c ≤ 281474976710656) (h63 : c ≤ 140737488355328)
    (h : ∀ w', Blk w' w.heap.size e (rep (c * sz) z0) → w.grownBy w' none → w'.heap.size = w.heap.size + 1 → K (a.put o.dst (.slice (some ⟨w.heap.size, 0, none⟩) n c)) w') : o.wp P a w K Q := by
  subst hn
  subst hc
  cases hq : P.info? e with
  | none => simp [hq] at hi
  | some i =>
    simp [hq] at hi
    obtain ⟨hz0, hz1, hz2⟩ := hi
    subst hz2
    have hr := run_make (P := P) w t e i z ht hq hz0 kl kc n c (by omega) (by omega) (by
      have h : ((i.bytes * c : Nat) : Int) ≤ 281474976710656 := by omega
      rwa [Int.natCast_mul] at h) (by omega)
    rw [hz1, hz, madeCells_alike _ _ hsz] at hr
    simp only [Int.toNat_natCast] at hr
    refine wp_val (v := .slice (some ⟨w.heap.size, 0, none⟩) n c) ?_ (h (w.alloc (.cells (rep (c * sz) z0).toArray e)) (Blk.new' rfl rfl) (World.grownBy_alloc w _ none) (by simp))
    unfold execOp
    simp only [ho, hx, hy, Sem.run_bind, hr, Sem.run_pure, Result.andThen_ok]
theorem wpList_makeZ (hgd : o.guard = none) (x y : Operand) (t : TypeId) (ho : o.op = .makeSlice t x y) (e : TypeId) (z : Value) (bytes sz : Nat) (z0 : Value) (ht : P.underlying t = some (.slice e)) (hi : (P.info? e).map (fun i => (i.zero, i.size, i.bytes)) = some (some z, sz, bytes)) (hz : z.cells = (List.replicate sz z0).toArray) (hsz : 0 < sz)
    (kl kc : IntKind) (ln lc : Int) (hx : a.eval x = .int kl ln) (hy : a.eval y = .int kc lc) (n c : Nat) (hn : ln = n) (hc : lc = c) (hnc : n ≤ c) (hbytes : bytes * c ≤ 281474976710656) (h63 : c ≤ 140737488355328)
    (h : ∀ w', Blk w' w.heap.size e (rep (c * sz) z0) → w.grownBy w' none → w'.heap.size = w.heap.size + 1 → wpList P ops Q rest (a.put o.dst (.slice (some ⟨w.heap.size, 0, none⟩) n c)) w') : wpList P ops Q (o :: rest) a w :=
  wpList_of hgd fun _ hK => wp_makeZ x y t ho e z bytes sz z0 ht hi hz hsz kl kc ln lc hx hy n c hn hc hnc hbytes h63 fun w' h1 h2 h3 => hK _ _ (h w' h1 h2 h3)
end
/-- []byte(T) -/
theorem conv_bytes (w : World) (T : ByteArray) : ∃ (c : Nat) (w' : World), (convert 9 22 (.string T)).run Try.prog w = .ok (.slice (some ⟨w.heap.size, 0, none⟩) T.size c) w' ∧ T.size ≤ c ∧ Hid (Rd w' (some ⟨w.heap.size, 0, none⟩) T.size (u8s T.data.toList)) ∧ Hid (Below w.heap.size w w') := by
  refine ⟨_, _, Lib.run_convert_string_bytes w _ _ _ T Try.underlying9 Try.underlying22 Try.underlying5, grownCap_ge _ _ _ _, ?_, Lib.bytesWorld_below _ _ _⟩
  refine ⟨by simp [u8s], fun h => ⟨w.heap.size, 0, rfl, by rw [Lib.bytesWorld_size]; omega, fun j u hu => ?_⟩⟩
  rw [u8s_getElem?] at hu
  rw [Option.map_eq_some_iff] at hu
  obtain ⟨x, hx, rfl⟩ := hu
  have hj : j < T.size := by have := (List.getElem?_eq_some_iff.1 hx).1; simpa using this
  rw [Nat.zero_add, Lib.bytesWorld_cell w _ T j hj]
  rw [List.getD_eq_getElem?_getD, hx]
  rfl
end Go.Proofs.Ytgkhglnfbhdkeaa

/- mac.Expand to one sum. -/
namespace Go.Proofs.Ytgkhglnfbhdkeaa
open Go.RowKit

theorem own_only {w w' : World} {base n g : Nat} {e : TypeId} {size : Nat} {v : Value} {xs : List Value} (h : w.ownsRow base e size v n xs) (ho : Only w w' g) (hne : ∀ k, v.ownBlock = some k → k ≠ g) : w'.ownsRow base e size v n xs := by
  refine h.kept ho.grown ?_
  cases hv : v.ownBlock with
  | none => exact .inl rfl
  | some k => exact .inr (fun e => hne k hv (by injection e))
theorem SlB.nil (w : World) : SlB w (.slice none 0 0) [] := ⟨_, _, _, rfl, Nat.le_refl _, Rd.nil _ _⟩
set_option maxRecDepth 100000 in
set_option maxHeartbeats 4000000 in
theorem expand_any (A : Option Addr) (n c : Nat) (k : List UInt8) (A2 : Option Addr) (n2 c2 : Nat) (ls : List (List UInt8)) (w : World) (h : Rd w A n (u8s k)) (hc : n ≤ c) (hn : n ≤ 1000000000) (h2 : RdB w A2 n2 ls) (hn2 : n2 ≤ 1000000) (hl : ls.flatten.length ≤ 10000000) :
    Calls Try.prog 101 #[.slice A n c, .int .i64 32, .slice A2 n2 c2] w fun e w' => ∃ g, e = .returned (.tuple #[.slice (some ⟨g, 0, none⟩) 32 32, .int .i64 0]) ∧ w.heap.size ≤ g ∧ Rd w' (some ⟨g, 0, none⟩) 32 (u8s (Wd.expand k ls.flatten)) ∧ Below w.heap.size w w' := by
  obtain ⟨J, hJ⟩ : ∃ J, ls.flatten = J := ⟨_, rfl⟩
  obtain ⟨L, hL⟩ : ∃ L, J.length = L := ⟨_, rfl⟩
  rw [hJ, hL] at hl
  rw [hJ]
  have HJN := Lib.hid (join_to A2 n2 c2 ls w h2 (by omega) J L hJ hL (by omega))
  have HTG : Hid (∀ (W : World) A4 c4, Rd W A n (u8s k) → Rd W A4 L (u8s J) → L ≤ c4 → Calls Try.prog 70 #[.slice A n c, .slice (some ⟨W.heap.size + 1, 0, none⟩) 3 3] ((W.alloc (.cells #[.int .u8 1] 5)).alloc (.cells #[.slice none 0 0, .slice A4 L c4, .slice (some ⟨W.heap.size, 0, none⟩) 1 1] 22)) fun e w' => e = .returned (.agg (u8s (Wd.expand k J)).toArray) ∧ Below (W.heap.size + 2) ((W.alloc (.cells #[.int .u8 1] 5)).alloc (.cells #[.slice none 0 0, .slice A4 L c4, .slice (some ⟨W.heap.size, 0, none⟩) 1 1] 22)) w') := fun W A4 c4 h1 hr hcc => by
    have hb4 : Blk (W.alloc (.cells #[.int .u8 1] 5)) W.heap.size 5 (u8s [1]) := Blk.new' rfl rfl
    have hb3 : Blk ((W.alloc (.cells #[.int .u8 1] 5)).alloc (.cells #[.slice none 0 0, .slice A4 L c4, .slice (some ⟨W.heap.size, 0, none⟩) 1 1] 22)) (W.heap.size + 1) 22 [.slice none 0 0, .slice A4 L c4, .slice (some ⟨W.heap.size, 0, none⟩) 1 1] := Blk.new' (by simp) rfl
    have := tag_any A n c k (some ⟨W.heap.size + 1, 0, none⟩) 3 3 [[], J, [1]] _ ((h1.alloc _).alloc _) hc hn (RdB.of_blk (ls := [[], J, [1]]) hb3 ⟨SlB.nil _, .of_rd ((hr.alloc _).alloc _) hcc, .of_blk (hb4.alloc _) 0 1 1 [1] (by simp [u8s_length]) (by omega) rfl, trivial⟩) (by omega) (by simp [hL]; omega)
    simpa [Wd.expand] using this
  have HL32 : Hid ((u8s (Wd.expand k J)).length = 32) := by show _ = _; rw [u8s_length, Wd.expand_len]
  have HXL : Hid ((Wd.expand k J).length = 32) := Wd.expand_len k J
  have H1 : Hid (∀ v ∈ u8s (Wd.expand k J), v.oneCell' = true) := u8s_one _
  have HI2 : Hid ((Try.prog.info? 24).map (·.size) = some (u8s (Wd.expand k J)).length) := by rw [u8s_length, Wd.expand_len]; exact hd24
  obtain ⟨X, hX⟩ : ∃ X, X = Wd.expand k J := ⟨_, rfl⟩
  rw [← hX] at HTG HL32 H1 HI2 HXL ⊢
  obtain ⟨U, hU⟩ : ∃ U, U = u8s X := ⟨_, rfl⟩
  rw [← hU] at HTG HL32 H1 HI2
  have HU := Lib.hid hU
  have HR := Lib.hid h
  clear h h2 hJ hL hX hU
  go_enter Try.func101, Try.ntmps101
  go_wp2_with (first
    | (go_at_call 39; (with_reducible refine HJN.out.mono ?_); rintro e w1 ⟨A3, c3, rfl, hc3, hown3, hB1⟩
       have HJ1 := Lib.hid (Rd.of_own hown3)
       have HB1 := Lib.hid hB1
       clear hown3 hB1)
    | (refine wpList_make1 rfl (.const (.int .i64 0)) (.tmp 22) 22 rfl 5 (.int .u8 0) 1 Try.underlying22 iU8 rfl .i64 .i64 0 64 (by rfl) (by rfl) 0 64 rfl rfl (by omega) (by omega) (by omega) ?_
       intro w2 hb2 hg2 hs2
       have HO2 := Lib.hid (show w2.ownsRow w.heap.size 5 1 (.slice (some ⟨w1.heap.size, 0, none⟩) 0 64) 0 (u8s []) from (by have h5 := own_of_blk hb2 HB1.out.size 0 64 1 (by omega) (by simp [rep_length]) (by omega); simpa [u8s] using h5))
       have HJ2 : Hid (Rd w2 A3 L (u8s J)) := HJ1.out.below (grown_below hg2)
       have HB2 : Hid (Below w.heap.size w w2) := HB1.out.trans ((grown_below hg2).mono HB1.out.size)
       clear hb2 hg2 hs2))
  go_loopg [9, 10, 11] 1 (fun kk v la q wr => Below w.heap.size w wr ∧ ((kk = 1 ∧ v = .slice (some ⟨w1.heap.size, 0, none⟩) 0 64 ∧ la = .slice none 0 0 ∧ q = .int .i64 1 ∧ Rd wr A3 L (u8s J) ∧ wr.ownsRow w.heap.size 5 1 (.slice (some ⟨w1.heap.size, 0, none⟩) 0 64) 0 (u8s [])) ∨
    (kk = 0 ∧ q = .int .i64 2 ∧ ∃ A' c', v = .slice A' 32 c' ∧ 32 ≤ c' ∧ wr.ownsRow w.heap.size 5 1 (.slice A' 32 c') 32 (u8s X))))
  case atStart => exact ⟨HB2.out, .inl ⟨rfl, rfl, rfl, rfl, HJ2.out, HO2.out⟩⟩
  case round =>
    clear HJ1 HB1 HO2 HJ2 HB2
    obtain ⟨hB, ⟨hgk, rfl, rfl, rfl, hj, hown⟩ | ⟨hgk, rfl, A', c', rfl, hc', hown⟩⟩ := hrel
    · have HGK := Lib.hid hgk
      have HJR := Lib.hid hj
      have HOW := Lib.hid hown
      have HBE := Lib.hid hB
      clear hgk hj hown hB
      go_wp2_with (first
        | (go_at_call 70; (with_reducible refine (HTG.out wr A3 c3 (HR.out.below HBE.out) HJR.out hc3).mono ?_); rintro e w3 ⟨rfl, hB3⟩
           have HB3 := Lib.hid (((HBE.out.alloc HBE.out.size _).alloc (Nat.le_trans HBE.out.size (by simp)) _).trans (hB3.mono (Nat.le_trans HBE.out.size (by omega))))
           have HO3 := Lib.hid (own_below ((HOW.out.alloc _).alloc _) (show Below ((wr.alloc (.cells #[.int .u8 1] 5)).alloc (.cells #[.slice none 0 0, .slice A3 L c3, .slice (some ⟨wr.heap.size, 0, none⟩) 1 1] 22)).heap.size _ _ from (by simpa using hB3)))
           clear hB3)
        | (refine wpList_store_all rfl 24 (.tmp 12) (.tmp 37) rfl w3.heap.size U (by rfl) (by rfl) 24 (u8s (List.replicate 32 0)) (by exact Blk.new' rfl rfl) HI2.out H1.out (by rw [HL32.out]; rfl) ?_
           intro w4 hb4 ho4
           have HB4 := Lib.hid (ho4.below (HB3.out.alloc HB3.out.size _) HB3.out.size (Nat.le_trans HB3.out.size (by simp)))
           have HO4 := Lib.hid (own_only (HO3.out.alloc _) ho4 (fun k hk => by have h7 := (HO3.out.lt k hk).2; omega))
           have HR4 : Hid (Rd w4 (some ⟨w3.heap.size, 0, none⟩) 32 (u8s X)) := (by have h5 := hb4; rw [HU.out] at h5; have h6 := h5.rdAll; rw [HXL.out] at h6; exact h6)
           clear hb4 ho4)
        | (at_builtin; refine wpList_app rfl (.tmp 39) (.tmp 40) 22 rfl w.heap.size 5 1 1 Try.underlying22 eU8 (.slice (some ⟨w1.heap.size, 0, none⟩) 0 64) 0 (u8s []) (by rfl) (by exact HO4.out) (some ⟨w3.heap.size, 0, none⟩) 32 32 (u8s X) (by rfl) (by exact HR4.out.toS) (u8s_one _) (by omega) (by omega) (by exact HB4.out.size) ?_
           intro A5 c5 w5 hown5 hc5 hg5 hat5
           have HO5 := Lib.hid hown5
           have HB5 := Lib.hid (HB4.out.grown hg5 HB4.out.size (fun g hg => (HO4.out.lt g hg).1))
           clear hown5 hg5 hat5))
      go_roundg 0
      case measure => have := HGK.out; omega
      case rel => exact ⟨HB5.out, .inr ⟨rfl, rfl, A5, c5, rfl, by omega, HO5.out⟩⟩
    · obtain ⟨g, rfl, hg, _, hr⟩ := own_pos hown (by omega)
      have HRR := Lib.hid hr
      clear hown hr
      have hc2 : (32 : Int) ≤ (c' : Int) := by omega
      go_wp2_with fail
      go_ret2
      exact ⟨g, rfl, hg, HRR.out, hB⟩
end Go.Proofs.Ytgkhglnfbhdkeaa

/- mac.Derive: a key for each label. -/
namespace Go.Proofs.Ytgkhglnfbhdkeaa
open Go.RowKit

theorem iA32 : (Try.prog.info? 24).map (fun i => (i.zero, i.size, i.bytes)) = some (some (.agg (List.replicate 32 (.int .u8 0)).toArray), 32, 32) := by kernel_rfl
/-- the keys of labels, one behind the other -/
def keysOf (s : List UInt8) (ls : List ByteArray) : List UInt8 := ls.flatMap fun l => Wd.derive s l.data.toList
theorem keysOf_len (s : List UInt8) (ls : List ByteArray) : (keysOf s ls).length = ls.length * 32 := by
  induction ls with
  | nil => rfl
  | cons l ls ih => rw [keysOf, List.flatMap_cons, List.length_append, Wd.derive_len]; rw [keysOf] at ih; rw [ih, List.length_cons]; omega
theorem keysOf_snoc (s : List UInt8) (ls : List ByteArray) (i : Nat) (l : ByteArray) (h : ls[i]? = some l) : keysOf s (ls.take (i + 1)) = keysOf s (ls.take i) ++ Wd.derive s l.data.toList := by
  unfold keysOf
  rw [List.take_add_one, h, List.flatMap_append]
  simp
def strs (ls : List ByteArray) : List Value := ls.map Value.string
theorem rd_new_fz (w : World) (t : TypeId) (cs : List Value) (fz : Nat × Nat) : Rd (w.alloc (.cells cs.toArray t fz)) (some ⟨w.heap.size, 0, none⟩) cs.length cs :=
  ⟨rfl, fun _ => ⟨w.heap.size, 0, rfl, by simp, fun j u hu => by rw [cell_of_row _ w.heap.size (0 + j) cs.toArray t fz (heap_alloc_new w _), Nat.zero_add]; simpa using hu⟩⟩
theorem splice_at {α : Type} (a b c d : List α) (h : c.length = b.length) : splice (a ++ b ++ d) a.length c = a ++ c ++ d := by
  unfold splice
  rw [List.append_assoc a b d, List.take_left, h, ← List.length_append, ← List.append_assoc a b d, List.drop_left, List.append_assoc]

theorem rep_add {α : Type} (a b : Nat) (z : α) : rep (a + b) z = rep a z ++ rep b z := by unfold rep; rw [List.replicate_append_replicate]
theorem keys_splice (K D : List UInt8) (n i : Nat) (hK : K.length = i * 32) (hD : D.length = 32) (hi : i < n) : splice (u8s K ++ rep ((n - i) * 32) (.int .u8 0)) (i * 32) ((u8s D).take 32) = u8s (K ++ D) ++ rep ((n - (i + 1)) * 32) (.int .u8 0) := by
  rw [List.take_of_length_le (by rw [u8s_length, hD]; exact Nat.le_refl _), show (n - i) * 32 = 32 + (n - (i + 1)) * 32 by omega, rep_add, ← List.append_assoc, u8s_append]
  have := splice_at (u8s K) (rep 32 (.int .u8 0)) (u8s D) (rep ((n - (i + 1)) * 32) (.int .u8 0)) (by rw [u8s_length, hD, rep_length])
  rw [u8s_length, hK] at this
  exact this

set_option maxRecDepth 100000 in
set_option maxHeartbeats 4000000 in
theorem derive_any (A : Option Addr) (n c : Nat) (k : List UInt8) (A2 : Option Addr) (n2 c2 : Nat) (ls : List ByteArray) (w : World) (h : Rd w A n (u8s k)) (hc : n ≤ c) (hn : n ≤ 1000000) (h2 : Rd w A2 n2 (strs ls)) (hn2 : n2 ≤ 1000) (h0 : 0 < n2) (hl : ∀ l ∈ ls, l.size ≤ 1000) :
    Calls Try.prog 76 #[.slice A n c, .slice A2 n2 c2] w fun e w' => ∃ g, e = .returned (.slice (some ⟨g, 0, none⟩) n2 n2) ∧ w.heap.size ≤ g ∧ Blk w' g 24 (u8s (keysOf k ls)) ∧ Below w.heap.size w w' := by
  have hll : ls.length = n2 := by have := h2.1; simpa [strs] using this
  have HLL := Lib.hid hll
  have HEX : Hid (∀ W A3 (l : ByteArray), l.size ≤ 1000 → Rd W A3 32 (u8s (Mc.tag Wd.salt k)) → ∀ A4 c4, RdB W A4 1 [l.data.toList] → Calls Try.prog 101 #[.slice A3 32 32, .int .i64 32, .slice A4 1 c4] W fun e w' => ∃ g, e = .returned (.tuple #[.slice (some ⟨g, 0, none⟩) 32 32, .int .i64 0]) ∧ W.heap.size ≤ g ∧ Rd w' (some ⟨g, 0, none⟩) 32 (u8s (Wd.derive k l.data.toList)) ∧ Below W.heap.size W w') := fun W A3 l hsz h1 A4 c4 hr => by
    have := expand_any A3 32 32 (Mc.tag Wd.salt k) A4 1 c4 [l.data.toList] W h1 (by omega) (by omega) hr (by omega) (by simp; omega)
    simpa [Wd.derive] using this
  have hxt : (Calls Try.prog 100 #[.slice (some ⟨w.heap.size, 0, none⟩) 7 7, .slice A n c] (w.alloc (.cells #[.int .u8 115, .int .u8 104, .int .u8 97, .int .u8 108, .int .u8 108, .int .u8 111, .int .u8 116] 5 (7, 8))) fun e w' => e = .returned (.agg (u8s (Mc.tag Wd.salt k)).toArray) ∧ Below (w.heap.size + 1) (w.alloc (.cells #[.int .u8 115, .int .u8 104, .int .u8 97, .int .u8 108, .int .u8 108, .int .u8 111, .int .u8 116] 5 (7, 8))) w') := by
    have := extract_any (some ⟨w.heap.size, 0, none⟩) 7 7 Wd.salt A n c k _ (rd_new_fz w 5 (u8s Wd.salt) (7, 8)) (by omega) (by omega) (h.alloc _) hc (by omega)
    have e7 : (w.alloc (.cells (u8s Wd.salt).toArray 5 (7, 8))).heap.size = w.heap.size + 1 := by simp
    rw [e7] at this
    exact this
  have HXT := Lib.hid hxt
  clear hxt
  have HTL : Hid ((Mc.tag Wd.salt k).length = 32) := Mc.tag_len _ _
  have HI2 : Hid ((Try.prog.info? 24).map (·.size) = some (u8s (Mc.tag Wd.salt k)).length) := by rw [u8s_length, Mc.tag_len]; exact hd24
  have HL2 : Hid ((u8s (Mc.tag Wd.salt k)).length = (u8s (List.replicate 32 0)).length) := by show _ = _; rw [u8s_length, Mc.tag_len]; rfl
  have HO2 : Hid (∀ v ∈ u8s (Mc.tag Wd.salt k), v.oneCell' = true) := u8s_one _
  obtain ⟨X, hX⟩ : ∃ X, X = Mc.tag Wd.salt k := ⟨_, rfl⟩
  rw [← hX] at HEX HXT HTL HI2 HL2 HO2
  obtain ⟨U, hU⟩ : ∃ U, U = u8s X := ⟨_, rfl⟩
  rw [← hU] at HXT HI2 HL2 HO2
  have HU := Lib.hid hU
  have HR2 := Lib.hid h2
  have HSZ := Lib.hid hl
  have hne : ((n2 : Int) == 0) = false := by rw [beq_eq_false_iff_ne]; omega
  have kc := fun (w : World) (C : Array Value) (n c : Nat) => Lib.run_convert_bytes_const (P := Try.prog) w 22 5 C n c Try.underlying22 Try.underlying5
  clear h h2 hll hX hU hl
  go_enter Try.func76, Try.ntmps76
  go_wp2_with (first
    | (go_at_call 100; (with_reducible refine HXT.out.mono ?_); rintro e w1 ⟨rfl, hB1⟩
       have HB1 := Lib.hid (((Below.refl _ w).alloc (Nat.le_refl _) _).trans (hB1.mono (Nat.le_succ _)))
       clear hB1)
    | (refine wpList_store_all rfl 24 (.tmp 5) (.tmp 17) rfl w1.heap.size U (by rfl) (by rfl) 24 (u8s (List.replicate 32 0)) (by exact Blk.new' rfl rfl) HI2.out HO2.out HL2.out ?_
       intro w2 hb2 ho2
       have HB2 := Lib.hid (ho2.below (HB1.out.alloc HB1.out.size _) HB1.out.size (Nat.le_trans HB1.out.size (by simp)))
       have HK2 : Hid (Blk w2 w1.heap.size 24 (u8s X)) := (by rw [← HU.out]; exact hb2)
       clear hb2 ho2)
    | (refine wpList_makeZ rfl (.tmp 19) (.tmp 19) 45 rfl 24 (.agg (List.replicate 32 (.int .u8 0)).toArray) 32 32 (.int .u8 0) Try.underlying45 iA32 rfl (by omega) .i64 .i64 (n2 : Int) (n2 : Int) (by rfl) (by rfl) n2 n2 rfl rfl (by omega) (by omega) (by omega) ?_
       intro w3 hb3 hg3 hs3
       have HK3 := Lib.hid (HK2.out.below (grown_below hg3) HK2.out.lt)
       have HB3 := Lib.hid (HB2.out.trans ((grown_below hg3).mono HB2.out.size))
       have HZ3 : Hid (Blk w3 w2.heap.size 24 (u8s (keysOf k (ls.take 0)) ++ rep ((n2 - 0) * 32) (.int .u8 0))) := hb3
       clear hb3 hg3 hs3))
  have hg12 : w1.heap.size < w2.heap.size := HK2.out.lt
  have hgb : w.heap.size ≤ w1.heap.size := HB1.out.size
  clear HB1 HB2 HK2 kc
  generalize w1.heap.size = ga at *
  generalize w2.heap.size = gb at *
  go_loopg [23] n2 (fun kk q wr => ∃ i : Nat, i ≤ n2 ∧ kk = n2 - i ∧ q = .int .i64 i ∧ Blk wr gb 24 (u8s (keysOf k (ls.take i)) ++ rep ((n2 - i) * 32) (.int .u8 0)) ∧ Blk wr ga 24 (u8s X) ∧ Below w.heap.size w wr)
  case atStart => exact ⟨0, by omega, rfl, rfl, HZ3.out, HK3.out, HB3.out⟩
  case round =>
    clear HZ3 HK3 HB3
    obtain ⟨i, hi, hgk, rfl, hz, hk, hB⟩ := hrel
    have HGK := Lib.hid hgk
    clear hgk
    by_cases hlt : i < n2
    · have hlt2 : (i : Int) < (n2 : Int) := by omega
      obtain ⟨l, hx⟩ : ∃ l, ls[i]? = some l := ⟨_, List.getElem?_eq_getElem (by rw [HLL.out]; exact hlt)⟩
      have hlz : l.size ≤ 1000 := HSZ.out l (List.mem_of_getElem? hx)
      have HKS := Lib.hid (keysOf_snoc k ls i l hx)
      obtain ⟨b, off, u, rfl, hbl, HX, hcl⟩ := (HR2.out.below hB).at_ hlt
      have hu : u = .string l := by have := HX.out; unfold strs at this; rw [List.getElem?_map, hx] at this; injection this with this; exact this.symm
      subst hu
      obtain ⟨c5, w5, hcv, hc5, HRC, HBC⟩ := conv_bytes wr l
      have hkl := keysOf_len k (ls.take i)
      rw [List.length_take, HLL.out, Nat.min_eq_left hi] at hkl
      have HKL := Lib.hid hkl
      have HEXw : Hid (∀ W c4, Rd W (some ⟨ga, 0, none⟩) 32 (u8s X) → RdB W (some ⟨w5.heap.size, 0, none⟩) 1 [l.data.toList] → Calls Try.prog 101 #[.slice (some ⟨ga, 0, none⟩) 32 32, .int .i64 32, .slice (some ⟨w5.heap.size, 0, none⟩) 1 c4] W fun e w' => ∃ g, e = .returned (.tuple #[.slice (some ⟨g, 0, none⟩) 32 32, .int .i64 0]) ∧ W.heap.size ≤ g ∧ Rd w' (some ⟨g, 0, none⟩) 32 (u8s (Wd.derive k l.data.toList)) ∧ Below W.heap.size W w') := fun W c4 h1 h2 => HEX.out W _ l hlz h1 _ c4 h2
      have HZ := Lib.hid hz
      have HK := Lib.hid hk
      have HBE := Lib.hid hB
      have hs5 := HBC.out.size
      have HRB : Hid (RdB (w5.alloc (.cells #[.slice (some ⟨wr.heap.size, 0, none⟩) l.size c5] 22)) (some ⟨w5.heap.size, 0, none⟩) 1 [l.data.toList]) := RdB.of_blk (ls := [l.data.toList]) (Blk.new' (cs := [.slice (some ⟨wr.heap.size, 0, none⟩) l.size c5]) rfl rfl) ⟨.of_rd (HRC.out.alloc _) hc5, trivial⟩
      have HRK : Hid (Rd (w5.alloc (.cells #[.slice (some ⟨wr.heap.size, 0, none⟩) l.size c5] 22)) (some ⟨ga, 0, none⟩) 32 (u8s X)) := (by have h5 := (hk.below HBC.out hk.lt).rdAll; rw [HTL.out] at h5; exact h5.alloc _)
      have HDL : Hid ((Wd.derive k l.data.toList).length = 32) := Wd.derive_len _ _
      clear hx hkl hz hk hB hlz
      go_wp2_with (first
        | (go_at_call 101; (with_reducible refine (HEXw.out _ _ HRK.out HRB.out).mono ?_); rintro e w6 ⟨g6, rfl, hg6, hr6, hB6⟩
           have HR6 := Lib.hid hr6
           have HB56 := Lib.hid (((HBC.out.alloc hs5 _)).trans (hB6.mono (Nat.le_trans hs5 (by simp))))
           have HB6 := Lib.hid (HBE.out.trans (HB56.out.mono HBE.out.size))
           have HZ6 := Lib.hid (HZ.out.below HB56.out HZ.out.lt)
           have HK6 := Lib.hid (HK.out.below HB56.out HK.out.lt)
           clear hr6 hB6)
        | (refine wpList_copy rfl (.tmp 39) (.tmp 40) 22 rfl 5 Try.underlying22 u8_one1 gb (i * 32) 32 32 (by rfl) (some ⟨g6, 0, none⟩) 32 32 (by rfl) 24 _ HZ6.out _ HR6.out (u8s_one _) (by rw [List.length_append, u8s_length, HKL.out, rep_length]; omega) ?_
           intro w7 hb7 ho7))
      have HSP := Lib.hid (keys_splice _ _ n2 i HKL.out HDL.out hlt)
      have HZ7 := Lib.hid hb7
      rw [HSP.out, ← HKS.out] at HZ7
      have HK7 := Lib.hid (ho7.blk HK6.out (by omega))
      have HB7 := Lib.hid (ho7.below HB6.out (by omega) HB6.out.size)
      go_roundg (n2 - (i + 1))
      case measure => have := HGK.out; omega
      case rel => exact ⟨i + 1, by omega, rfl, by go_num, HZ7.out, HK7.out, HB7.out⟩
    · obtain rfl : i = n2 := by omega
      have hlt2 : ¬ (i : Int) < (i : Int) := by omega
      have HZ := Lib.hid hz
      rw [List.take_of_length_le (by rw [HLL.out]; exact Nat.le_refl _), Nat.sub_self, Nat.zero_mul, show rep 0 (Value.int .u8 0) = [] from rfl, List.append_nil] at HZ
      clear hz
      go_wp2_with fail
      go_ret
      exact ⟨gb, rfl, by omega, HZ.out, hB⟩
end Go.Proofs.Ytgkhglnfbhdkeaa
