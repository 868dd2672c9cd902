/- shallotref16.Twin, and the decoders of what has not the right length. -/
import Derived.Test.YtgkhglnfbhdkeaaMat
import Derived.Test.YtgkhglnfbhdkeaaR17
namespace Go.Proofs.Ytgkhglnfbhdkeaa
open Go.RowKit

theorem RdS.ofOwn {w : World} {base n c sz : Nat} {e : TypeId} {A : Option Addr} {xs : List Value} (h : w.ownsRow base e sz (.slice A n c) n xs) : RdS sz w A n xs := by
  refine ⟨h.1, fun hn => ?_⟩
  rcases h.2 with ⟨_, h0⟩ | ⟨g, cap, cur, hv, _, hg, hnc, _, hcs, htake⟩
  · omega
  · injection hv with hA
    subst hA
    refine ⟨g, 0, rfl, (Array.getElem?_eq_some_iff.1 hg).1, fun j u hu => ?_⟩
    rw [cell_of_row w g (0 + j) cur e (0, 0) hg, Nat.zero_add]
    rw [← htake, List.getElem?_take] at hu
    split at hu
    · simpa using hu
    · cases hu
theorem PaysR.of_rds {w : World} {A : Option Addr} {m : Nat} {ks : List (List UInt8)} (h : RdS 32 w A m (ks.flatMap u8s)) (hl : ks.length = m) (hk : ∀ k ∈ ks, k.length = 32) : PaysR w A m ks := by
  refine ⟨hl, hk, fun hm => ?_⟩
  obtain ⟨b, off, e, hb, hc⟩ := h.2 hm
  refine ⟨b, off, e, fun i k hi => ?_⟩
  have hkl := hk k (List.mem_of_getElem? hi)
  refine ⟨by rw [u8s_length, hkl], fun _ => ⟨b, off + i * 32, rfl, hb, fun j u hu => ?_⟩⟩
  have h1 := flatMap_at (f := u8s) (sz := 32) (fun a ha => by rw [u8s_length]; exact hk a ha) hi hu
  rw [Nat.add_assoc]
  exact hc _ _ h1
theorem eK32 : ElemIs Try.prog 24 32 32 := ElemIs.of (z := .agg (u8s (List.replicate 32 0)).toArray) (by kernel_rfl) (by simp [Value.cells, u8s_length]) (by omega)
theorem flat_one (ks : List (List UInt8)) : ∀ v ∈ ks.flatMap u8s, v.oneCell' = true := by
  intro v hv
  obtain ⟨k, _, h⟩ := List.mem_flatMap.1 hv
  exact u8s_one k v h
theorem hd47 : (Try.prog.info? 47).map (·.size) = some 49 := by kernel_rfl
def z47 : List Value := stC (List.replicate 16 0) (List.replicate 32 0) none 0 0
theorem stC_one (mark own : List UInt8) (A : Option Addr) (m c : Nat) : ∀ v ∈ stC mark own A m c, v.oneCell' = true := by
  intro v hv
  simp only [stC, List.mem_append, List.mem_singleton] at hv
  rcases hv with hv | hv | hv
  · exact u8s_one _ v hv
  · exact u8s_one _ v hv
  · subst hv; rfl
theorem stC_set (mark own : List UInt8) (A A' : Option Addr) (m c m' c' : Nat) (h1 : mark.length = 16) (h2 : own.length = 32) : (stC mark own A m c).set 48 (.slice A' m' c') = stC mark own A' m' c' := by
  unfold stC
  rw [List.set_append_right _ _ (by rw [u8s_length]; omega), List.set_append_right _ _ (by rw [u8s_length, u8s_length]; omega), u8s_length, u8s_length, h1, h2]
  rfl

set_option maxRecDepth 100000 in
set_option maxHeartbeats 1000000 in
theorem dec_no (C : List Value) (B : Option Addr) (n d : Nat) (w : World) (hn : ¬ n = 480) :
    Calls Try.prog 15 #[.agg C.toArray, .slice B n d] w fun e w' => e = .returned (.tuple #[.slice none 0 0, .int .i64 2]) ∧ Below w.heap.size w w' := by
  have hne : ((n : Int) != 480) = true := by rw [bne_iff_ne]; omega
  clear hn
  go_enter Try.func15, Try.ntmps15
  go_wp2_with fail
  go_ret2
  exact ⟨rfl, (Below.refl _ _).alloc (Nat.le_refl _) _⟩
set_option maxRecDepth 100000 in
set_option maxHeartbeats 1000000 in
theorem rdec_no (C : List Value) (B : Option Addr) (n d : Nat) (w : World) (hn : ¬ n = 480) :
    Calls Try.prog 17 #[.agg C.toArray, .slice B n d] w fun e w' => e = .returned (.tuple #[.slice none 0 0, .int .i64 2]) ∧ Below w.heap.size w w' := by
  have hne : ((n : Int) != 480) = true := by rw [bne_iff_ne]; omega
  clear hn
  go_enter Try.func17, Try.ntmps17
  go_wp2_with fail
  go_ret2
  exact ⟨rfl, (Below.refl _ _).alloc (Nat.le_refl _) _⟩

theorem ldq_st (v : Value) : Instr.loadAt 47 v = ldAt 47 v := rfl
theorem stq_st (p v : Value) : Instr.storeAt 47 p v = stAt 47 p v := rfl
attribute [local go_sem ↓] ldq_st stq_st
theorem zc47 : (Try.prog.info? 47).map (·.zero) = some (some (.agg z47.toArray)) := by kernel_rfl
set_option maxRecDepth 100000 in
set_option maxHeartbeats 4000000 in
theorem twin_any (mark own : List UInt8) (A : Option Addr) (m c : Nat) (ks : List (List UInt8)) (w : World) (h1 : mark.length = 16) (h2 : own.length = 32) (h : RdS 32 w A m (ks.flatMap u8s)) (hm : m ≤ 1000000) :
    Calls Try.prog 16 #[.agg (stC mark own A m c).toArray] w fun e w' => ∃ A' c', e = .returned (.agg (stC mark own A' m c').toArray) ∧ m ≤ c' ∧ RdS 32 w' A' m (ks.flatMap u8s) ∧ Below w.heap.size w w' := by
  have HR := Lib.hid h
  have C48 := Lib.hid (stC_48 mark own A m c h1 h2)
  have CST := Lib.hid (fun A' c' => stC_set mark own A A' m c m c' h1 h2)
  have HI : Hid (∀ A' c', (Try.prog.info? 47).map (·.size) = some (stC mark own A' m c').length) := fun A' c' => by rw [stC_len _ _ _ _ _ h1 h2]; exact hd47
  have HZL : Hid (∀ A' c', (stC mark own A' m c').length = z47.length) := fun A' c' => by rw [stC_len _ _ _ _ _ h1 h2]; rfl
  obtain ⟨C, hC⟩ : ∃ C, C = stC mark own A m c := ⟨_, rfl⟩
  rw [← hC] at C48 CST ⊢
  clear h hC h1 h2
  go_enter Try.func16, Try.ntmps16
  have HB0 : Hid (Blk (w.alloc (.cells C.toArray 47)) w.heap.size 47 C) := Blk.new w _ _
  have c48 : (w.alloc (.cells C.toArray 47)).cell? ⟨w.heap.size, 48, none⟩ = some (.slice A m c) := (HB0.out.cell 48).trans C48.out
  have c48b := C48.out
  have c48c : C.toArray[48]? = some (.slice A m c) := by rw [List.getElem?_toArray]; exact C48.out
  have hsA : w.heap.size < (w.alloc (.cells C.toArray 47)).heap.size := HB0.out.lt
  go_wp2_with (first
    | (at_builtin; refine wpList_app rfl (.tmp 3) (.tmp 5) 45 rfl (w.heap.size + 1 + 1) 24 32 32 Try.underlying45 eK32 (.slice (some ⟨w.heap.size + 1 + 1, 0, none⟩) 0 0) 0 [] (by rfl) (by exact own_of_blk (base := w.heap.size + 1 + 1) (cs := []) (Blk.new' (by simp) rfl) (Nat.le_refl _) 0 0 32 (by omega) (by simp) (by omega)) A m c (ks.flatMap u8s) (by rfl) (by exact HR.out.bel ((((Below.refl w.heap.size w).alloc (Nat.le_refl _) _).alloc (by simp) _).alloc (by simp; omega) _) (Nat.le_refl _)) (flat_one ks) (by omega) (by omega) (by simp) ?_
       intro A3 c3 w3 hown3 hc3 hg3 hat3
       have HB3 := Lib.hid (((HB0.out.alloc _).alloc _).grown hg3 (by simp [Value.ownBlock]; omega))
       have HZ3 : Hid (Blk w3 (w.heap.size + 1) 47 z47) := ((Blk.new' (w := w.alloc (.cells C.toArray 47)) (g := w.heap.size + 1) (cs := z47) (t := 47) (by simp) rfl).alloc _).grown hg3 (by simp [Value.ownBlock])
       have HE3 := Lib.hid (((((Below.refl w.heap.size w).alloc (Nat.le_refl _) _).alloc (by simp) _).alloc (by simp; omega) _).grown hg3 (by simp; omega) (fun k hk => by simp [Value.ownBlock] at hk; omega))
       have c48d : w3.cell? ⟨w.heap.size, 48, none⟩ = some (.slice A m c) := (HB3.out.cell 48).trans C48.out
       have f48d := HB3.out.frozen 48
       have hb4 := HB3.out.set_ 48 (.slice A3 m c3)
       rw [CST.out] at hb4
       have HB4 := Lib.hid hb4
       have HZ4 := Lib.hid (HZ3.out.far (p := ⟨w.heap.size, 48, none⟩) (by show w.heap.size + 1 ≠ w.heap.size; omega) (.slice A3 m c3))
       have HE4 := Lib.hid (HE3.out.setCell (p := ⟨w.heap.size, 48, none⟩) (Nat.le_refl _) (.slice A3 m c3))
       simp only [Nat.zero_add, List.nil_append] at hown3 hc3
       have HO4 := Lib.hid (ownsRow_setCell_below hown3 (a := ⟨w.heap.size, 48, none⟩) (by show w.heap.size < _; omega) (.slice A3 m c3))
       clear hown3 hg3 hat3 hb4)
    | refine wpList_load_mid rfl 47 (.tmp 1) rfl w.heap.size 0 (by rfl) (stC mark own A3 m c3) _ HB4.out.range Try.underlying47 rfl (HI.out A3 c3) ?_
    | (refine wpList_store_all rfl 47 (.tmp 2) (.tmp 8) rfl (w.heap.size + 1) (stC mark own A3 m c3) (by rfl) (by rfl) 47 z47 HZ4.out (HI.out A3 c3) (stC_one _ _ _ _ _) (HZL.out A3 c3) ?_
       intro w6 hb6 ho6
       have HB6 := Lib.hid hb6
       have HE6 := Lib.hid (ho6.below HE4.out (by omega) HE4.out.size)
       have HO6 := Lib.hid (own_only HO4.out ho6 (fun k hk => by have := (HO4.out.lt k hk).1; omega))
       clear hb6 ho6))
  exact bodyPost_ret (res_cell rfl _ (w.heap.size + 1) _ (stC mark own A3 m c3) rfl HB6.out _ Try.underlying47 rfl (HI.out A3 c3)) rfl ⟨A3, c3, rfl, hc3, RdS.ofOwn HO6.out, HE6.out⟩
end Go.Proofs.Ytgkhglnfbhdkeaa
