/- Part of the proof: Rtu, Apz. -/
import Derived.Lib.AppendZerosOnto
import Derived.Test.YtpgpaenloaphaaaGreatHox25
import Derived.Test.YtpgpaenloaphaaaGreatHox29
import Derived.Test.YtpgpaenloaphaaaGreatHox44
namespace Go.Proofs.YtpgpaenloaphaaaGreat
open Go.RowKit
theorem own_blkX {w : World} {base n c : Nat} {e : TypeId} {A : Option Addr} {xs : List Value} (h : w.ownsRow base e 1 (.slice A n c) n xs) (hn : 0 < n) :
    ∃ g cs, A = some ⟨g, 0, none⟩ ∧ base ≤ g ∧ Blk w g e (xs ++ cs) ∧ xs.length = n ∧ (xs ++ cs).length = c ∧ c ≤ maxLen := by
  obtain ⟨h1, h2⟩ := h
  rcases h2 with ⟨_, h0⟩ | ⟨g, cap, cur, hv, hb, hg, hnc, hm, hsz, hxs⟩
  · omega
  · injection hv with hA hn' hc
    subst hc
    have hx : cur.toList.take n = xs := by simpa using hxs
    refine ⟨g, cur.toList.drop n, hA, hb, ?_, by simpa using h1, ?_, ?_⟩
    · rw [← hx, List.take_append_drop]
      exact hg
    · rw [← hx, List.take_append_drop]
      simpa using hsz
    · exact hm
theorem xor_getD (a b : List UInt8) (i : Nat) (ha : i < a.length) (hb : i < b.length) : (Ch.xor a b)[i]? = some (a.getD i 0 ^^^ b.getD i 0) := by
  simp [Ch.xor, List.getElem?_zipWith, List.getD_eq_getElem?_getD, ha, hb]
theorem half_set (X S : List UInt8) (i : Nat) (v : UInt8) (hX : X[i]? = some v) (hS : i < S.length) : (X.take i ++ S.drop i).set i v = X.take (i + 1) ++ S.drop (i + 1) := by
  have hi : i < X.length := (List.getElem?_eq_some_iff.1 hX).1
  rw [List.set_append_right _ _ (by simp; omega), List.length_take, Nat.min_eq_left (by omega), Nat.sub_self, List.drop_eq_getElem_cons hS, List.set_cons_zero, List.take_add_one, hX, List.append_assoc]
  rfl
set_option maxRecDepth 100000 in
set_option maxHeartbeats 4000000 in
theorem rturned_any (key : List UInt8) (hk : key.length = 32) (B : Option Addr) (n d : Nat) (bs : List UInt8) (w : World) (h : Rd w B n (u8s bs)) (h0 : 0 < n) (hn : n ≤ 1000000) :
    Calls Tryz.prog 46 #[.agg (u8s key).toArray, .int .i64 0, .slice B n d] w fun e w' => ∃ A' c', e = .returned (.slice A' n c') ∧ n ≤ c' ∧ w'.ownsRow w.heap.size 5 1 (.slice A' n c') n (u8s (Ch.turn key bs)) ∧ Below w.heap.size w w' := by
  have HR := Lib.hid h
  have HBL := Lib.hid h.len
  have HK : Hid (Blk (w.alloc (.cells (u8s key).toArray 23)) w.heap.size 23 (u8s key)) := Blk.new _ _ _
  have HE : Hid (Below w.heap.size w (w.alloc (.cells (u8s key).toArray 23))) := (Below.refl _ w).alloc (Nat.le_refl _) _
  have HY : Hid (Calls Tryz.prog 77 #[.slice (some ⟨w.heap.size, 0, none⟩) 32 32, .int .i64 0, .int .i64 n] (w.alloc (.cells (u8s key).toArray 23)) fun e w' => ∃ g cs c', e = .returned (.slice (some ⟨g, 0, none⟩) n c') ∧ (u8s (Ch.piece key 0 n) ++ cs).length = c' ∧ n ≤ c' ∧ c' ≤ maxLen ∧ w.heap.size + 1 ≤ g ∧ Blk w' g 5 (u8s (Ch.piece key 0 n) ++ cs) ∧ Below (w.alloc (.cells (u8s key).toArray 23)).heap.size (w.alloc (.cells (u8s key).toArray 23)) w') := by
    refine (rbytes_any (some ⟨w.heap.size, 0, none⟩) 32 key n _ (HK.out.rdA hk) h0 hn).mono ?_
    rintro e w' ⟨A', c', rfl, hc', ho, hB⟩
    obtain ⟨g, cs, rfl, hg, hb, hl, hcl, hm⟩ := own_blkX ho h0
    exact ⟨g, cs, c', rfl, hcl, hc', hm, by simpa using hg, hb, hB⟩
  obtain ⟨S, hS⟩ : ∃ S, S = Ch.piece key 0 n := ⟨_, rfl⟩
  have HSL : Hid (S.length = n) := (by show _ = _; rw [hS, Ch.piece_len])
  have HX : Hid (Ch.turn key bs = Ch.xor bs S) := (by show _ = _; rw [Ch.turn, hS, h.len])
  rw [← hS] at HY
  rw [HX.out]
  have HXL : Hid ((Ch.xor bs S).length = n) := (by show _ = _; rw [Ch.xor_len _ _ (by rw [HSL.out]; exact h.len), h.len])
  have HXG : Hid (∀ i, i < n → (Ch.xor bs S)[i]? = some (bs.getD i 0 ^^^ S.getD i 0)) := fun i hi => xor_getD bs S i (by rw [HBL.out]; exact hi) (by rw [HSL.out]; exact hi)
  generalize Ch.xor bs S = X at *
  have hn0 : (n : Int) ≤ 1000000 := by omega
  clear hS h HX HK
  go_enter Tryz.func46, Tryz.ntmps46
  go_wp2_with (go_at_call 77; (with_reducible refine HY.out.mono ?_); rintro e w1 ⟨g, cs, cc, rfl, hcl, hnc, hcm, hg, hb, hB⟩; have HCC := Lib.hid hcl; have HS1 := Lib.hid hb; have HE1 := qtr HE hB; have HG := Lib.hid hg; have HNC := Lib.hid hnc; have HCM := Lib.hid hcm; clear hb hB hg hnc hcm hcl)
  go_loopg [8] n (fun kk q wr => ∃ i : Nat, kk = n - i ∧ q = .int .i64 (i : Int) ∧ i ≤ n ∧ Blk wr g 5 (u8s (X.take i ++ S.drop i) ++ cs) ∧ Below w.heap.size w wr)
  case atStart => exact ⟨0, rfl, rfl, by omega, by rw [List.take_zero, List.drop_zero, List.nil_append]; exact HS1.out, HE1.out⟩
  case round =>
    clear HS1 HE1 HY HE
    obtain ⟨i, hgk, rfl, hi, hA, hE⟩ := hrel
    rcases Nat.lt_or_ge i n with hlt | hge
    · have hlt2 : (i : Int) < (n : Int) := by omega
      obtain ⟨b, off, y, rfl, hbw, huy, hcw⟩ := HR.out.u8 (k := i) hlt
      have cy : wr.cell? ⟨b, off + i, none⟩ = some (.int .u8 (y.toNat : Int)) := (hE.cell hbw).trans hcw
      obtain ⟨x, hx⟩ : ∃ x, x = S.getD i 0 := ⟨_, rfl⟩
      have hyd : y = bs.getD i 0 := by rw [List.getD_eq_getElem?_getD, huy]; rfl
      have hxl : (u8s (X.take i ++ S.drop i) ++ cs)[i]? = some (.int .u8 (x.toNat : Int)) := by
        rw [List.getElem?_append_left (by rw [u8s_length, List.length_append, List.length_take, List.length_drop, HXL.out, HSL.out]; omega), u8s_getElem?, List.getElem?_append_right (by rw [List.length_take, HXL.out]; omega), List.length_take, HXL.out, Nat.min_eq_left (by omega), Nat.sub_self, List.getElem?_drop, Nat.add_zero, List.getElem?_eq_getElem (by rw [HSL.out]; exact hlt), hx, List.getD_eq_getElem?_getD, List.getElem?_eq_getElem (by rw [HSL.out]; exact hlt)]
        rfl
      have cx : wr.cell? ⟨g, i, none⟩ = some (.int .u8 (x.toNat : Int)) := (hA.cell i).trans hxl
      have fx : wr.drew.frozen? ⟨g, i, none⟩ = false := hA.drew.frozen i
      obtain ⟨v, hv⟩ : ∃ v, v = x ^^^ y := ⟨_, rfl⟩
      have hvi : bits .xor .u8 (x.toNat : Int) (y.toNat : Int) = (v.toNat : Int) := by rw [hv]; exact w8_xor x y
      have HXI : Hid (X[i]? = some v) := (by show _ = _; rw [HXG.out i hlt, hv, hx, hyd, UInt8.xor_comm])
      have HAx : Hid (Blk (wr.drew.setCell ⟨g, i, none⟩ (.int .u8 (v.toNat : Int))) g 5 (u8s (X.take (i + 1) ++ S.drop (i + 1)) ++ cs)) := by
        have h1 := hA.drew.set_ i (.int .u8 (v.toNat : Int))
        rw [List.set_append_left _ _ (by rw [u8s_length, List.length_append, List.length_take, List.length_drop, HXL.out, HSL.out]; omega), u8s_set, half_set X S i v HXI.out (by rw [HSL.out]; exact hlt)] at h1
        exact h1
      have HEx := Lib.hid (hE.drew.setCell (p := ⟨g, i, none⟩) (by have := HG.out; show w.heap.size ≤ g; omega) (.int .u8 (v.toNat : Int)))
      have HGK := Lib.hid hgk
      have HLT := Lib.hid hlt
      have hT : wr.drew.cell? ⟨g, i, none⟩ = some (.int .u8 (x.toNat : Int)) ∧ wr.drew.cell? ⟨b, off + i, none⟩ = some (.int .u8 (y.toNat : Int)) := ⟨cx, cy⟩
      clear hA hE hgk cx cy hxl hx hyd hv huy hcw hbw
      go_wp2
      refine region_K (by kernel_rfl) 12 (fun w' => w'.cell? ⟨g, i, none⟩ = some (.int .u8 (x.toNat : Int)) ∧ w'.cell? ⟨b, off + i, none⟩ = some (.int .u8 (y.toNat : Int))) ?_
      refine AnyK.pure 0 (v := .slice (some ⟨g, 0, none⟩) n cc) rfl (by kernel_rfl) (fun _ _ _ h => h) rfl (fun _ => by kernel_rfl) (fun _ => hT) ?_
      refine AnyK.pure 1 (v := .int .i64 (i : Int)) rfl (by kernel_rfl) (fun _ _ _ h => h) rfl (fun _ => by kernel_rfl) (fun _ => hT) ?_
      refine AnyK.pure 2 (v := .slice (some ⟨g, 0, none⟩) n cc) rfl (by kernel_rfl) (fun _ _ _ h => h) rfl (fun _ => by kernel_rfl) (fun _ => hT) ?_
      refine AnyK.pure 3 (v := .int .i64 (i : Int)) rfl (by kernel_rfl) (fun _ _ _ h => h) rfl (fun _ => by kernel_rfl) (fun _ => hT) ?_
      refine AnyK.pure 4 (v := .pointer (some ⟨g, i, none⟩)) rfl (by kernel_rfl) (fun _ _ _ h => h) rfl (fun _ => (ex_idxS (t := 22) (e := 5) (x := .tmp 22) (y := .tmp 23) (g := g) (off := 0) (n := n) (c := cc) (p := i) (sz := 1) (by rfl) (by kernel_rfl) (by kernel_rfl) hlt (by kernel_rfl) szU8r).trans (by rw [Nat.mul_one, Nat.zero_add])) (fun _ => hT) ?_
      refine AnyK.load 5 (v := .int .u8 (x.toNat : Int)) rfl (by kernel_rfl) (by kernel_rfl) (by kernel_rfl) (fun _ _ _ h => h) rfl (fun w' hw' => ey_load (t := 5) (x := .tmp 24) (p := ⟨g, i, none⟩) (by rfl) (by kernel_rfl) agU8 hw'.1) hT ?_
      refine AnyK.pure 6 (v := .slice (some ⟨b, off, none⟩) n d) rfl (by kernel_rfl) (fun _ _ _ h => h) rfl (fun _ => by kernel_rfl) (fun _ => hT) ?_
      refine AnyK.pure 7 (v := .int .i64 (i : Int)) rfl (by kernel_rfl) (fun _ _ _ h => h) rfl (fun _ => by kernel_rfl) (fun _ => hT) ?_
      refine AnyK.pure 8 (v := .pointer (some ⟨b, off + i, none⟩)) rfl (by kernel_rfl) (fun _ _ _ h => h) rfl (fun _ => (ex_idxS (t := 22) (e := 5) (x := .tmp 26) (y := .tmp 27) (g := b) (off := off) (n := n) (c := d) (p := i) (sz := 1) (by rfl) (by kernel_rfl) (by kernel_rfl) hlt (by kernel_rfl) szU8r).trans (by rw [Nat.mul_one])) (fun _ => hT) ?_
      refine AnyK.load 9 (v := .int .u8 (y.toNat : Int)) rfl (by kernel_rfl) (by kernel_rfl) (by kernel_rfl) (fun _ _ _ h => h) rfl (fun w' hw' => ey_load (t := 5) (x := .tmp 28) (p := ⟨b, off + i, none⟩) (by rfl) (by kernel_rfl) agU8 hw'.2) hT ?_
      refine AnyK.pure 10 (v := .int .u8 (v.toNat : Int)) rfl (by kernel_rfl) (fun _ _ _ h => h) rfl (fun _ => Eq.trans (b := .ok (.value (.int .u8 (bits .xor .u8 (x.toNat : Int) (y.toNat : Int)))) _) (by kernel_rfl) (by rw [hvi])) (fun _ => hT) ?_
      refine AnyK.pure 11 (v := .pointer (some ⟨g, i, none⟩)) rfl (by kernel_rfl) (fun _ _ _ h => h) rfl (fun _ => (ex_idxS (t := 22) (e := 5) (x := .tmp 20) (y := .tmp 21) (g := g) (off := 0) (n := n) (c := cc) (p := i) (sz := 1) (by rfl) (by kernel_rfl) (by kernel_rfl) hlt (by kernel_rfl) szU8r).trans (by rw [Nat.mul_one, Nat.zero_add])) (fun _ => hT) ?_
      refine AnyK.store 12 (d := none) (op := .store 5 (.tmp 31) (.tmp 30)) (by kernel_rfl) (fun o ho => ey_store (p := ⟨g, i, none⟩) (k := .u8) (n := (v.toNat : Int)) ho (by kernel_rfl) (by kernel_rfl) szU8r hT.1 fx) (by kernel_rfl) (fun h => (by cases h)) ?_
      refine AnyK.done (by kernel_rfl) ?_
      clear hT fx hvi
      go_wp2
      go_roundg (n - (i + 1))
      case measure => have := HGK.out; have := HLT.out; omega
      case rel => exact ⟨i + 1, rfl, by go_num, by have := HLT.out; omega, HAx.out, HEx.out⟩
    · obtain rfl : i = n := by omega
      have hlt2 : ¬ (i : Int) < (i : Int) := by omega
      rw [List.take_of_length_le (by rw [HXL.out]; exact Nat.le_refl _), List.drop_of_length_le (by rw [HSL.out]; exact Nat.le_refl _), List.append_nil] at hA
      have hlc : (u8s X ++ cs).length = cc := by rw [← HCC.out, List.length_append, List.length_append, u8s_length, u8s_length, HXL.out, HSL.out]
      have HOW : Hid (wr.ownsRow w.heap.size 5 1 (.slice (some ⟨g, 0, none⟩) i cc) i (u8s X)) := by
        refine ⟨by rw [u8s_length, HXL.out, Nat.mul_one], .inr ⟨g, cc, (u8s X ++ cs).toArray, rfl, (by have := HG.out; omega), hA, HNC.out, HCM.out, by simpa using hlc, ?_⟩⟩
        rw [Nat.mul_one, List.toList_toArray, List.take_append_of_le_length (by rw [u8s_length, HXL.out]; exact Nat.le_refl _), List.take_of_length_le (by rw [u8s_length, HXL.out]; exact Nat.le_refl _)]
      have HEx := Lib.hid hE
      clear hA hE hgk hlc
      go_wp2
      go_ret
      exact ⟨_, _, rfl, HNC.out, HOW.out, HEx.out⟩
end Go.Proofs.YtpgpaenloaphaaaGreat
namespace Go.Proofs.YtpgpaenloaphaaaGreat
open Go.RowKit
def za48 : List Value := u8s (List.replicate 48 0)
theorem za48_len : za48.length = 48 := rfl
theorem zca48 : Builtin.zeroCells (Value.int .u8 0).cells 48 = za48.toArray := by kernel_rfl
theorem run_append_room_zeros {P : Program} (w : World) (t tn ty e : TypeId) (i : TypeInfo) (z : Value) (kq kn : IntKind) (ht : P.underlying t = some (.slice e)) (htn : P.underlying tn = some (.int kn)) (hi : P.info? e = some i) (hz : i.zero = some z)
    (g sLen sCap : Nat) (cur : Array Value) (hgc : w.heap[g]? = some (.cells cur e (0, 0)))
    (k : Nat) (h0 : 0 < k) (hs : 0 < i.size) (news : List Value) (hnews : Builtin.zeroCells z.cells k = news.toArray) (h1 : ∀ u ∈ news, u.oneCell' = true) (hroom : sLen + k ≤ sCap) (hfit : sLen * i.size + news.length ≤ cur.size) (h63 : (k : Int) ≤ 9223372036854775807) (h48 : k * i.bytes ≤ 281474976710656) :
    (Builtin.append_ #[t, tn] ty #[.slice (some ⟨g, 0, none⟩) sLen sCap, .int kq k]).run P w =
      .ok (.slice (some ⟨g, 0, none⟩) (sLen + k) sCap) (w.setRow g (cur.toList.take (sLen * i.size) ++ news ++ cur.toList.drop (sLen * i.size + news.length)).toArray) := by
  have hk : k ≠ 0 := by omega
  have hw : IntKind.i64.wrap (k : Int) = k := by rw [IntKind.wrap_i64]; omega
  have h48i : ¬ (281474976710656 < (k : Int) * (i.bytes : Int)) := by
    rw [← Int.natCast_mul]
    omega
  have hneg : ¬ ((k : Int) < 0) := by omega
  have hns : ¬ (k * i.size = 0) := Nat.mul_ne_zero hk (by omega)
  have hst := run_storeCells_at P g (sLen * i.size) e news 0 cur w hgc (by simpa using hfit) h1
  simp only [Nat.add_zero] at hst
  simp [Builtin.append_, run_underlying ht, run_underlying htn, sizeOf, typeInfo, zeroValue, hi, hz, asInt, asIntOf, hw, hroom, hneg, hns, h48i, hnews, Addr.add_lit, hst]
theorem run_app_zeros {P : Program} (w : World) (base : Nat) (t tn ty e : TypeId) (kn : IntKind) (ht : P.underlying t = some (.slice e)) (htn : P.underlying tn = some (.int kn)) (i : TypeInfo) (hi : P.info? e = some i) (hz : i.zero = some (.int .u8 0)) (hsi : i.size = 1) (hby : i.bytes = 1)
    (v : Value) (n : Nat) (xs : List Value) (hown : w.ownsRow base e 1 v n xs) (hn : n ≤ 100000) (hbase : base ≤ w.heap.size) :
    ∃ v' w', (Builtin.append_ #[t, tn] ty #[v, .int .i64 48]).run P w = .ok v' w' ∧ w'.ownsRow base e 1 v' (n + 48) (xs ++ za48) ∧ w.grownBy w' v.ownBlock ∧ (v'.ownBlock = v.ownBlock ∨ v'.ownBlock = some w.heap.size) := by
  have hlen : (xs ++ za48).length = (n + 48) * 1 := by rw [List.length_append, hown.1, za48_len]; omega
  have grown : ∀ (old : Nat), old < n + 48 → ∀ (row : Option Nat),
      (w.drew.alloc (.cells (xs.toArray ++ Builtin.zeroCells (Value.int .u8 0).cells 48 ++ Builtin.zeroCells (Value.int .u8 0).cells (grownCap w (n + 48) old e - (n + 48))) e)).ownsRow base e 1
        (.slice (some ⟨w.heap.size, 0, none⟩) (n + 48) (grownCap w (n + 48) old e)) (n + 48) (xs ++ za48) ∧
      w.grownBy (w.drew.alloc (.cells (xs.toArray ++ Builtin.zeroCells (Value.int .u8 0).cells 48 ++ Builtin.zeroCells (Value.int .u8 0).cells (grownCap w (n + 48) old e - (n + 48))) e)) row := by
    intro old ho row
    have hge := grownCap_ge w (n + 48) old e
    have hcm : grownCap w (n + 48) old e ≤ maxLen := grownCap_le_maxLen w (n + 48) old e (by simp only [maxLen]; omega)
    refine ⟨⟨hlen, .inr ⟨w.heap.size, _, _, rfl, hbase, heap_alloc_new w.drew _, hge, hcm, ?_, ?_⟩⟩, ⟨rfl, rfl, rfl, by simp, fun k hk _ => heap_alloc_old w.drew _ hk⟩⟩
    · simp only [Array.size_append, List.size_toArray, size_zeroCells, hown.1]
      simp [Value.cells]
      omega
    · rw [zca48]
      simp only [Array.toList_append, List.append_assoc]
      rw [← List.append_assoc, ← hlen]
      exact List.take_left
  have h63' : ((n + 48 : Nat) : Int) ≤ 9223372036854775807 := by omega
  rcases hown.2 with ⟨rfl, rfl⟩ | ⟨g, cap, cur, rfl, hbg, hg, hnc, hcm, hcs, htake⟩
  · have hx : xs = [] := List.eq_nil_of_length_eq_zero (by simpa using hown.1)
    subst hx
    have hr := Lib.run_append_grow_zeros (P := P) w t tn ty e i (.int .u8 0) .i64 kn ht htn hi hz none 0 0 [] (run_firstCells_none w.drew i.size 0 0 0) 48 (by omega) (by omega) (by omega) h63' (by omega) (growslice_fits (by omega) (by rw [hby]; omega))
    have hgr := grown 0 (by omega) (Value.ownBlock (.slice none 0 0))
    exact ⟨_, _, hr, hgr.1, hgr.2, Or.inr rfl⟩
  · by_cases hroom : n + 48 ≤ cap
    · have hfit : n * i.size + za48.length ≤ cur.size := by rw [za48_len, hsi, hcs]; omega
      have hr := run_append_room_zeros (P := P) w t tn ty e i (.int .u8 0) .i64 kn ht htn hi hz g n cap cur hg 48 (by omega) (by omega) za48 zca48 (u8s_one _) hroom hfit (by omega) (by omega)
      refine ⟨_, _, hr, ⟨hlen, .inr ⟨g, cap, _, rfl, hbg, setRow_heap w g cur _ e _ hg, hroom, hcm, ?_, ?_⟩⟩, ⟨rfl, rfl, rfl, by simp, fun k _ hk => setRow_other w g k _ (fun e => hk (by simp [Value.ownBlock, e]))⟩, Or.inl rfl⟩
      · simp only [List.size_toArray, List.length_append, List.length_take, List.length_drop, Array.length_toList]
        omega
      · rw [hsi, htake, ← hlen]
        exact List.take_left
    · have holds : ∀ j u, xs[j]? = some u → w.cell? ((⟨g, 0, none⟩ : Addr).add j) = some u := hown.cells (g := g) rfl
      have hold : (Builtin.firstCells i.size n (.slice (some ⟨g, 0, none⟩) n cap)).run P w.drew = .ok xs.toArray w.drew := run_firstCells_some w.drew i.size n _ n cap xs (by rw [hsi]; exact hown.1) (by simpa using holds)
      have hr := Lib.run_append_grow_zeros (P := P) w t tn ty e i (.int .u8 0) .i64 kn ht htn hi hz (some ⟨g, 0, none⟩) n cap xs hold 48 (by omega) (by omega) (by omega) h63' (by omega) (growslice_fits (by omega) (by rw [hby]; omega))
      have hgr := grown cap (by omega) (Value.ownBlock (.slice (some ⟨g, 0, none⟩) n cap))
      exact ⟨_, _, hr, hgr.1, hgr.2, Or.inr rfl⟩
theorem info8m : ∃ i, Tryz.prog.info? 5 = some i ∧ i.zero = some (.int .u8 0) ∧ i.size = 1 ∧ i.bytes = 1 := by
  have h : (Tryz.prog.info? 5).map (fun i => (i.zero, i.size, i.bytes)) = some (some (.int .u8 0), 1, 1) := by kernel_rfl
  cases hq : Tryz.prog.info? 5 with
  | none => simp [hq] at h
  | some i => simp [hq] at h; exact ⟨i, rfl, h.1, h.2.1, h.2.2⟩
section
variable {w : World} {ops : Array Oper} {rest : List Oper} {o : Oper} {a : Act} {K : Act → World → Prop} {Q : Exit → Act → World → Prop}
theorem wp_app_zeros (s : Operand) (ho : o.op = .call { callee := .builtin .append, args := #[s, .const (.int .i64 48)], argTypes := #[22, 3] })
    (base : Nat) (v : Value) (n : Nat) (xs : List Value) (hs : a.eval s = v) (hown : w.ownsRow base 5 1 v n xs) (hn : n ≤ 100000) (hbase : base ≤ w.heap.size)
    (h : ∀ A' c' w', w'.ownsRow base 5 1 (.slice A' (n + 48) c') (n + 48) (xs ++ za48) → n + 48 ≤ c' → w.grownBy w' v.ownBlock → (Value.ownBlock (.slice A' (n + 48) c') = v.ownBlock ∨ Value.ownBlock (.slice A' (n + 48) c') = some w.heap.size) → K (a.put o.dst (.slice A' (n + 48) c')) w') : o.wp Tryz.prog a w K Q := by
  obtain ⟨i, hi, hz, hsi, hby⟩ := info8m
  obtain ⟨v', w', hrun, h2, h3, h4⟩ := run_app_zeros (P := Tryz.prog) w base 22 3 o.type 5 .i64 Tryz.underlying22 Tryz.underlying3 i hi hz hsi hby v n xs hown hn hbase
  have hev : #[s, .const (.int .i64 48)].map a.eval = #[v, .int .i64 48] := by simp only [List.map_toArray, List.map_cons, List.map_nil, hs]; rfl
  obtain ⟨A', c', rfl, hc⟩ := own_form h2
  refine wp_val (exec_builtin .append #[s, .const (.int .i64 48)] #[22, 3] ho hev fun cs => ?_) (h A' c' w' h2 hc h3 h4)
  simp only [builtin, Sem.run_bind, hrun, Sem.run_pure, Result.andThen_ok]
theorem step_app_zeros {F : Prop} (hgd : o.guard = none) (s : Operand) (ho : o.op = .call { callee := .builtin .append, args := #[s, .const (.int .i64 48)], argTypes := #[22, 3] })
    (base : Nat) (v : Value) (n : Nat) (xs : List Value) (hs : a.eval s = v) (hown : w.ownsRow base 5 1 v n xs) (hn : n ≤ 100000) (hbase : base ≤ w.heap.size)
    (h : ∀ A' c' w', w'.ownsRow base 5 1 (.slice A' (n + 48) c') (n + 48) (xs ++ za48) → n + 48 ≤ c' → w.grownBy w' v.ownBlock → (Value.ownBlock (.slice A' (n + 48) c') = v.ownBlock ∨ Value.ownBlock (.slice A' (n + 48) c') = some w.heap.size) → K (a.put o.dst (.slice A' (n + 48) c')) w') : if Region.wanted o (yielded ops a.tmps) = true then Oper.wp Tryz.prog o a w K Q else F :=
  step_of hgd (wp_app_zeros s ho base v n xs hs hown hn hbase h)
end
end Go.Proofs.YtpgpaenloaphaaaGreat
