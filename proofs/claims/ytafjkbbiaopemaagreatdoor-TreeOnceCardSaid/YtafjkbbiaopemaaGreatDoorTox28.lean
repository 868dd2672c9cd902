/- Part of the proof: Sb, Sc. -/
import Derived.Test.YtafjkbbiaopemaaGreatDoorTox26
set_option linter.unusedVariables false
namespace Go.Proofs.YtafjkbbiaopemaaGreatDoor
open Go.RowKit
section
variable {P : Program} {ops : Array Oper} {Q : Exit → Act → World → Prop} {md : Region.Mode} {T : World → Prop} {k : Nat}
theorem AnyK.two_new {fuel : Nat} {listed : Array Bool} {a : Act} {w : World} (i j s t : Nat) {d1 d2 e1 e2 : Tmp} (hd : d1 ≠ d2) (ty : TypeId) (Z C1 C2 : List Value) {oi oj os ot : Oper}
    (hi : ops[i]? = some oi) (hid : oi.dst = some d1) (hig : oi.guard = none) (hirun : ∀ (b : Act) w, (execOp b.eval oi).run P w = .ok (.value (.pointer (some ⟨w.heap.size, 0, none⟩))) (w.alloc (.cells Z.toArray ty)))
    (hj : ops[j]? = some oj) (hjd : oj.dst = some d2) (hjg : oj.guard = none) (hjrun : ∀ (b : Act) w, (execOp b.eval oj).run P w = .ok (.value (.pointer (some ⟨w.heap.size, 0, none⟩))) (w.alloc (.cells Z.toArray ty)))
    (hs : ops[s]? = some os) (hsd : os.dst = none) (hsg : os.guard = none) (hso : os.op = .store ty (.tmp d1) (.tmp e1))
    (ht : ops[t]? = some ot) (htd : ot.dst = none) (htg : ot.guard = none) (hto : ot.op = .store ty (.tmp d2) (.tmp e2))
    (he1 : ∀ (x y : Value), ((a.put (some d1) x).put (some d2) y).eval (.tmp d1) = x)
    (he3 : ∀ (x y : Value), ((a.put (some d1) x).put (some d2) y).eval (.tmp e1) = .agg C1.toArray) (he4 : ∀ (x y : Value), (((a.put (some d1) x).put (some d2) y).put none undef).eval (.tmp e2) = .agg C2.toArray) (he5 : ∀ (x y : Value), (((a.put (some d1) x).put (some d2) y).put none undef).eval (.tmp d2) = y)
    (hr0 : Region.ready md ops listed = [i, j]) (hri : Region.ready md ops (listed.setIfInBounds i true) = [j]) (hrj : Region.ready md ops (listed.setIfInBounds j true) = [i]) (hrs : Region.ready md ops ((listed.setIfInBounds i true).setIfInBounds j true) = [s])
    (hrt : Region.ready md ops (((listed.setIfInBounds i true).setIfInBounds j true).setIfInBounds s true) = [t]) (hrd : Region.ready md ops ((((listed.setIfInBounds i true).setIfInBounds j true).setIfInBounds s true).setIfInBounds t true) = [])
    (hsz : (P.info? ty).map (·.size) = some Z.length) (hone1 : ∀ v ∈ C1, v.oneCell' = true) (hlen1 : C1.length = Z.length) (hone2 : ∀ v ∈ C2, v.oneCell' = true) (hlen2 : C2.length = Z.length)
    (hT : ∀ W, Below w.heap.size w W → T W)
    (hcont : ∀ g1 g2 W, w.heap.size ≤ g1 → w.heap.size ≤ g2 → Blk W g1 ty C1 → Blk W g2 ty C2 → Below w.heap.size w W → Q .normal ((((a.put (some d1) (.pointer (some ⟨g1, 0, none⟩))).put (some d2) (.pointer (some ⟨g2, 0, none⟩))).put none undef).put none undef) W) :
    AnyK P md ops Q k T (fuel + 4) listed a w := by
  have hij : i ≠ j := by
    rintro rfl
    rw [hi] at hj
    injection hj with hj
    subst hj
    rw [hid] at hjd
    injection hjd with hjd
    exact hd hjd
  have fin : ∀ g1 g2 W, w.heap.size ≤ g1 → w.heap.size ≤ g2 → g1 ≠ g2 → Blk W g1 ty Z → Blk W g2 ty Z → Below w.heap.size w W → AnyK P md ops Q k T (fuel + 2) ((listed.setIfInBounds i true).setIfInBounds j true) ((a.put (some d1) (.pointer (some ⟨g1, 0, none⟩))).put (some d2) (.pointer (some ⟨g2, 0, none⟩))) W := fun g1 g2 W hg1 hg2 hne hb1 hb2 hB => by
    refine AnyK.one s hs hrs hsg ?_
    refine wp_store ty (.tmp d1) (.tmp e1) hso g1 0 C1 (he1 _ _) (he3 _ _) ty Z hb1 (by rw [hlen1]; exact hsz) hone1 (by omega) ?_
    intro w' hb' ho'
    rw [splice_whole _ _ hlen1] at hb'
    have hB' := ho'.below hB hg1 hB.size
    rw [hsd]
    refine ⟨fun _ => hT _ hB', ?_⟩
    refine AnyK.one t ht hrt htg ?_
    refine wp_store ty (.tmp d2) (.tmp e2) hto g2 0 C2 (he5 _ _) (he4 _ _) ty Z (ho'.blk hb2 (Ne.symm hne)) (by rw [hlen2]; exact hsz) hone2 (by omega) ?_
    intro w2 hb2' ho2
    rw [splice_whole _ _ hlen2] at hb2'
    have hB2 := ho2.below hB' hg2 hB'.size
    rw [htd]
    refine ⟨fun _ => hT _ hB2, ?_⟩
    exact AnyK.done hrd (hcont g1 g2 w2 hg1 hg2 (ho2.blk hb' hne) hb2' hB2)
  refine AnyK.fork i j hi hj hr0 hig hjg ?_ ?_
  · unfold Oper.wp
    rw [hirun]
    have hB2 := (Below.refl w.heap.size w).alloc (Nat.le_refl _) (.cells Z.toArray ty)
    rw [Oper.upon_value, hid]
    refine ⟨fun _ => hT _ hB2, ?_⟩
    refine AnyK.one j hj hri hjg ?_
    unfold Oper.wp
    rw [hjrun]
    have hB3 := hB2.alloc hB2.size (.cells Z.toArray ty)
    rw [Oper.upon_value, hjd]
    exact ⟨fun _ => hT _ hB3, fin _ _ _ (Nat.le_refl _) (by simp) (by simp) ((Blk.new w ty Z).alloc _) (Blk.new _ _ _) hB3⟩
  · unfold Oper.wp
    rw [hjrun]
    have hB2 := (Below.refl w.heap.size w).alloc (Nat.le_refl _) (.cells Z.toArray ty)
    rw [Oper.upon_value, hjd]
    refine ⟨fun _ => hT _ hB2, ?_⟩
    refine AnyK.one i hi hrj hig ?_
    unfold Oper.wp
    rw [hirun]
    have hB3 := hB2.alloc hB2.size (.cells Z.toArray ty)
    rw [Oper.upon_value, hid, Array.setIfInBounds_comm _ _ (Ne.symm hij), Act.put_comm a _ _ (fun d h1 h2 => hd (by injection h1 with h1; injection h2 with h2; rw [h1, h2]))]
    exact ⟨fun _ => hT _ hB3, fin _ _ _ (by simp) (Nat.le_refl _) (by simp) (Blk.new _ _ _) ((Blk.new w ty Z).alloc _) hB3⟩
def chained (md : Region.Mode) (ops : Array Oper) : Nat → List Nat → Bool
  | _, [] => true
  | i, m :: l => awaits md ops m i && chained md ops m l
theorem not_chained {j : Nat} {listed : Array Bool} (hj : j ∈ Region.ready md ops listed) : ∀ (i : Nat) (path : List Nat), chained md ops i path = true → listed.getD i true = false → (∀ m ∈ path, listed.getD m true = false) → ∀ m ∈ path, j ≠ m
  | _, [], _, _, _, m, hm => by cases hm
  | i, p :: l, hc, hi, hl, m, hm => by
    simp only [chained, Bool.and_eq_true] at hc
    rcases List.mem_cons.1 hm with rfl | hm
    · rintro rfl
      obtain ⟨oj, hoj, hall⟩ := (mem_ready.1 hj).2
      obtain ⟨ok, hok, e, he, hb, hei⟩ := awaits_spec hc.1
      rw [hok] at hoj
      injection hoj with hoj
      subst hoj
      have h1 := hall e he hb
      rw [hei] at h1
      rcases Nat.lt_or_ge i listed.size with h' | h'
      · simp [h'] at hi h1; rw [hi] at h1; cases h1
      · simp [Array.getElem?_eq_none h'] at h1
    · exact not_chained hj p l hc.2 (hl p (List.mem_cons_self ..)) (fun m hm => hl m (List.mem_cons_of_mem _ hm)) m hm
theorem AnyK.firstP {i : Nat} {path : List Nat} {oi : Oper} {v : Value} {S : World → Prop} (hi : ops[i]? = some oi) (hik : i ≠ k) (hsel : ∀ (j : Nat) (o : Oper) cs b, ops[j]? = some o → o.op ≠ .select cs b)
    (hQ : ∀ c a w, Q (.panic c) (a.put oi.dst v) w → Q (.panic c) a w)
    (hS : ∀ w, T w → S w) (hch : chained md ops i path = true) (hkp : k ∈ path) (hip : i ∉ path) :
    ∀ (fuel : Nat) (listed : Array Bool) (a : Act) (w : World),
      (∀ j oj, ops[j]? = some oj → j ≠ i → listed.getD j true = false → (∀ e ∈ oj.after, Region.binds md e = true → e.on ≠ i) → oi.apart ops oj = true) →
      i ∈ Region.ready md ops listed → YieldsIf P ops S oi v a → S w → (listed.getD k true = false → T w) → (∀ m ∈ path, listed.getD m true = false) →
      AnyK P md ops Q k T fuel (listed.setIfInBounds i true) (a.put oi.dst v) w → AnyK P md ops Q k T (fuel + 1) listed a w := by
  have hset : ∀ (L : Array Bool), (L.setIfInBounds i true).getD k true = L.getD k true := fun L => getD_set_ne true hik
  intro fuel
  induction fuel with
  | zero =>
    intro listed a w _ hr hy hSw hT _ H
    refine ⟨fun h => (by rw [h] at hr; cases hr), fun j hj => ?_⟩
    by_cases hji : j = i
    · subst hji; exact hy.wpOp hi hSw ⟨fun h => hT (by rwa [hset] at h), H⟩
    · have := ready_mono hj hji
      rw [H.1] at this
      cases this
  | succ fuel ih =>
    intro listed a w hfree hr hy hSw hT hl H
    refine ⟨fun h => (by rw [h] at hr; cases hr), fun j hj => ?_⟩
    by_cases hji : j = i
    · subst hji; exact hy.wpOp hi hSw ⟨fun h => hT (by rwa [hset] at h), H⟩
    · have h1 := H.2 j (ready_mono hj hji)
      obtain ⟨hjun, oj, hoj, hall⟩ := mem_ready.1 hj
      have hnot : ∀ e ∈ oj.after, Region.binds md e = true → e.on ≠ i := fun e he hb heq => by
        have h1 := hall e he hb
        have h0 := (mem_ready.1 hr).1
        rw [heq] at h1
        rcases Nat.lt_or_ge i listed.size with h' | h'
        · simp [h'] at h0 h1; rw [h0] at h1; cases h1
        · simp [Array.getElem?_eq_none h'] at h1
      have h2 := wpOp_putIf hoj (hfree j oj hoj hji hjun hnot) (fun cs b => hsel i oi cs b hi) (fun cs b => hsel j oj cs b hoj) hQ hy h1
      have hfree' : ∀ k ok, ops[k]? = some ok → k ≠ i → (listed.setIfInBounds j true).getD k true = false →
          (∀ e ∈ ok.after, Region.binds md e = true → e.on ≠ i) → oi.apart ops ok = true := fun k ok hk hki hun hno => by
        refine hfree k ok hk hki ?_ hno
        by_cases hjk : j = k
        · subst hjk; exact hjun
        · rw [getD_set_ne true hjk] at hun; exact hun
      have hkj : ∀ m ∈ path, (listed.setIfInBounds j true).getD m true = false := fun m hm => by
        rw [getD_set_ne true (not_chained hj i path hch (mem_ready.1 hr).1 hl m hm)]
        exact hl m hm
      refine wpOp_mono (fun a' w' h3 => ?_) h2
      have hT' : (listed.setIfInBounds j true).getD k true = false → T w' := fun h => h3.2.1 (by rw [Array.setIfInBounds_comm _ _ (Ne.symm hji), hset]; exact h)
      refine ⟨hT', ih (listed.setIfInBounds j true) a' w' hfree' (ready_mono hr (Ne.symm hji)) h3.1 ?_ hT' hkj ?_⟩
      · exact hS w' (hT' (hkj k hkp))
      · rw [Array.setIfInBounds_comm _ _ hji]
        exact h3.2.2
theorem AnyK.loadP {fuel : Nat} {listed : Array Bool} {a : Act} {w : World} (i : Nat) (path : List Nat) {oi : Oper} {v : Value} (hi : ops[i]? = some oi) (hd : takeB md ops listed k i = true) (hk : (chained md ops i path && path.contains k && !path.contains i && path.all fun m => !listed.getD m true) = true)
    (hQ : ∀ c a w, Q (.panic c) (a.put oi.dst v) w → Q (.panic c) a w) (hg : Region.wanted oi (yielded ops a.tmps) = true) (hy : ∀ w, T w → (execOp a.eval oi).run P w = .ok (.value v) w) (hT : T w)
    (h : AnyK P md ops Q k T fuel (listed.setIfInBounds i true) (a.put oi.dst v) w) : AnyK P md ops Q k T (fuel + 1) listed a w := by
  simp only [takeB, Bool.and_eq_true, decide_eq_true_eq] at hd
  obtain ⟨⟨⟨h1, h2⟩, h3⟩, h4⟩ := hd
  simp only [Bool.and_eq_true, List.all_eq_true, Bool.not_eq_true', List.contains_eq_mem, decide_eq_true_eq, decide_eq_false_iff_not] at hk
  obtain ⟨⟨⟨k1, k2⟩, k3⟩, k4⟩ := hk
  exact AnyK.firstP (S := T) (path := path) hi h1 (Region.noSelect_spec h2) hQ (fun _ h => h) k1 k2 k3 fuel listed a w (Region.free_spec hi h3) (by simpa using h4) (.inl ⟨hg, hy⟩) hT (fun _ => hT) k4 h
theorem ex_loadZ {w : World} {a : Act} {o : Oper} {t : TypeId} {x : Operand} {p : Addr} {v : Value} (ho : o.op = .load t x) (hx : a.eval x = .pointer (some p)) (hn : ∀ w, (isAgg t).run P w = .ok false w) (hc : w.cell? p = some v) : (execOp a.eval o).run P w = .ok (.value v) w := by
  unfold execOp
  simp [ho, hx, Instr.loadAt, Instr.sureAddr, loadVar, hn, hc]
theorem ex_idxT {w : World} {a : Act} {o : Oper} {t e : TypeId} {x y : Operand} {g off n c p sz : Nat} (ho : o.op = .indexAddr t x y) (hx : a.eval x = .slice (some ⟨g, off, none⟩) n c) (hy : a.eval y = .int .i64 (p : Int)) (hp : p < n) (hu : P.underlying t = some (.slice e)) (hz : ∀ w, (sizeOf e).run P w = .ok sz w) : (execOp a.eval o).run P w = .ok (.value (.pointer (some ⟨g, off + p * sz, none⟩))) w := by
  unfold execOp
  simp [ho, hx, hy, Instr.indexAt, asIntOf, run_underlying hu, hz, hp, Addr.add]
end
end Go.Proofs.YtafjkbbiaopemaaGreatDoor
namespace Go.Proofs.YtafjkbbiaopemaaGreatDoor.Tr
open Go.RowKit
inductive StSm : List St → Prop
  | mk (ss : List St) (hl : ss.length ≤ 140737488355328) (he : ∀ s ∈ ss, ExSm s.ea.args ∧ ExSm s.eb.args ∧ ExSm s.ec.args ∧ s.routes.length ≤ 140737488355328) (hy : ∀ s ∈ ss, StSm s.body) (hz : ∀ s ∈ ss, StSm s.els) : StSm ss
theorem ldq_Sm (v : Value) : Instr.loadAt 42 v = ldAt 42 v := rfl
theorem szSm (w : World) : (sizeOf 42).run Tryz.prog w = .ok 26 w := by kernel_rfl
theorem st_cells {w : World} {F : Nat → Prop} {A : Option Addr} {ss : List St} (h : BodyIn F w A ss) (i : Nat) (hi : i < ss.length) : ∃ b off p, A = some ⟨b, off, none⟩ ∧ b < w.heap.size ∧ w.rangeAt b (off + i * 26) (stC ss[i] p) ∧ StIn F w ss[i] p := by
  cases h with
  | mk _ _ sl hl hr he hy hz =>
    obtain ⟨b, off, rfl, hb, hc⟩ := hr.1.2 (by omega)
    have h1 : ss[i]? = some ss[i] := List.getElem?_eq_getElem hi
    have h2 : sl[i]? = some (sl[i]'(by omega)) := List.getElem?_eq_getElem _
    exact ⟨b, off, sl[i]'(by omega), rfl, hb, fun j v hv => (by rw [Nat.add_assoc]; exact hc _ v (zipC_get stC 26 (fun _ _ => rfl) ss sl i _ _ j v h1 h2 hv)), he i _ _ h1 h2, hy i _ _ h1 h2, hz i _ _ h1 h2⟩
section
variable {w w' : World}
attribute [local go_sem ↓] ldq_Sm
set_option maxRecDepth 100000 in
set_option maxHeartbeats 8000000 in
theorem sameStmts_c {ss : List St} (h : StSm ss) : ∀ {F G : Nat → Prop} (A B : Option Addr) (n a b : Nat) (_ : ss.length = n) (w : World) (_ : BodyIn F w A ss) (_ : BodyIn G w B ss),
    Calls Tryz.prog 33 #[.slice A n a, .slice B n b, .bool true] w fun e w' => e = .returned (.bool true) ∧ Below w.heap.size w w' := by
  induction h with
  | mk ss hl he hy hz ihy ihz =>
    intro F G A B n a b hn w hA hB
    have HY := Lib.hid ihy
    have HZ := Lib.hid ihz
    have HE := Lib.hid he
    have HN := Lib.hid hn
    have HA := Lib.hid hA
    have HB := Lib.hid hB
    have hn8 : n ≤ 140737488355328 := by omega
    clear ihy ihz hl he hy hz hn hA hB
    go_enter Tryz.func33, Tryz.ntmps33
    go_wp2
    go_loopg [7] n (fun kk q wr => ∃ j : Nat, j ≤ n ∧ kk = n - j ∧ q = .int .i64 (j : Int) ∧ Hid (Below w.heap.size w wr))
    case atStart => exact ⟨0, by omega, by omega, rfl, Lib.hid (Below.refl _ _)⟩
    case round =>
      obtain ⟨j, hj, hk, rfl, HR⟩ := hrel
      rcases Nat.eq_or_lt_of_le hj with rfl | hlt
      · have hnl : ¬ (j : Int) < (j : Int) := by omega
        clear hk hj
        go_wp2
        go_ret
        exact ⟨rfl, HR.out⟩
      · have hlt2 : (j : Int) < (n : Int) := by omega
        have hjl : j < ss.length := by have := HN.out; omega
        obtain ⟨b1, o1, sp, rfl, hb1, x1, k1⟩ := st_cells (HA.out.keep (Keep.of_below HR.out F)) j hjl
        obtain ⟨b2, o2, tp, rfl, hb2, x2, k2⟩ := st_cells (HB.out.keep (Keep.of_below HR.out G)) j hjl
        have HYj : Hid (∀ (F G : Nat → Prop) (A B : Option Addr) (n a b : Nat), ss[j].body.length = n → ∀ w : World, BodyIn F w A ss[j].body → BodyIn G w B ss[j].body → Calls Tryz.prog 33 #[.slice A n a, .slice B n b, .bool true] w fun e w' => e = .returned (.bool true) ∧ Below w.heap.size w w') := fun F G => HY.out ss[j] (List.getElem_mem _)
        have HZj : Hid (∀ (F G : Nat → Prop) (A B : Option Addr) (n a b : Nat), ss[j].els.length = n → ∀ w : World, BodyIn F w A ss[j].els → BodyIn G w B ss[j].els → Calls Tryz.prog 33 #[.slice A n a, .slice B n b, .bool true] w fun e w' => e = .returned (.bool true) ∧ Below w.heap.size w w') := fun F G => HZ.out ss[j] (List.getElem_mem _)
        have HEj := Lib.hid (HE.out ss[j] (List.getElem_mem _))
        clear HY HZ HE HA HB
        generalize ss[j] = E at *
        have HK : Hid (StIn F wr E sp ∧ StIn G wr E tp) := ⟨k1, k2⟩
        have HX : Hid (wr.rangeAt b1 (o1 + j * 26) (stC E sp) ∧ wr.rangeAt b2 (o2 + j * 26) (stC E tp)) := ⟨x1, x2⟩
        have HCO : Hid ((∀ v ∈ stC E sp, v.oneCell' = true) ∧ (∀ v ∈ stC E tp, v.oneCell' = true)) := ⟨stC_one _ _, stC_one _ _⟩
        have HCL : Hid ((stC E sp).length = 26 ∧ (stC E tp).length = 26) := ⟨rfl, rfl⟩
        clear k1 k2 x1 x2
        obtain ⟨CA, hCA⟩ : ∃ CA, CA = stC E sp := ⟨_, rfl⟩
        obtain ⟨CB, hCB⟩ : ∃ CB, CB = stC E tp := ⟨_, rfl⟩
        rw [← hCA, ← hCB] at HX HCO HCL
        have HCC : Hid (CA = stC E sp ∧ CB = stC E tp) := ⟨hCA, hCB⟩
        clear hCA hCB
        go_upto_region 6 with fail
        have hT : Below wr.heap.size wr wr.drew := Below.drew (Below.refl _ _)
        refine region_K (by kernel_rfl) 11 (fun W => Below wr.heap.size wr W) ?_
        refine AnyK.pure 0 (v := .slice (some ⟨b1, o1, none⟩) n a) rfl (by kernel_rfl) (fun _ _ _ h => h) rfl (fun _ => by kernel_rfl) (fun _ => hT) ?_
        refine AnyK.pure 1 (v := .int .i64 j) rfl (by kernel_rfl) (fun _ _ _ h => h) rfl (fun _ => by kernel_rfl) (fun _ => hT) ?_
        refine AnyK.pure 2 (v := .pointer (some ⟨b1, o1 + j * 26, none⟩)) rfl (by kernel_rfl) (fun _ _ _ h => h) rfl (fun _ => ex_idxT (t := 24) (x := .tmp 21) (y := .tmp 22) (g := b1) (off := o1) (n := n) (c := a) (p := j) (by rfl) (by kernel_rfl) (by kernel_rfl) hlt Tryz.underlying24 szSm) (fun _ => hT) ?_
        refine AnyK.load 3 (v := .agg CA.toArray) rfl (by kernel_rfl) (by kernel_rfl) (by kernel_rfl) (fun _ _ _ h => h) rfl (fun w' hw' => ex_loadS rfl (by kernel_rfl) (run_loadAt_mid w' b1 (o1 + j * 26) 42 CA _ (fun q v hv => (World.cell?_of_block (a := ⟨b1, o1 + j * 26 + q, none⟩) (hw'.block b1 hb1)).trans (HX.out.1 q v hv)) Tryz.underlying42 rfl (by rw [HCL.out.1]; exact hdSt))) hT ?_
        refine AnyK.pure 4 (v := .slice (some ⟨b2, o2, none⟩) n b) rfl (by kernel_rfl) (fun _ _ _ h => h) rfl (fun _ => by kernel_rfl) (fun _ => hT) ?_
        refine AnyK.pure 5 (v := .int .i64 j) rfl (by kernel_rfl) (fun _ _ _ h => h) rfl (fun _ => by kernel_rfl) (fun _ => hT) ?_
        refine AnyK.pure 6 (v := .pointer (some ⟨b2, o2 + j * 26, none⟩)) rfl (by kernel_rfl) (fun _ _ _ h => h) rfl (fun _ => ex_idxT (t := 24) (x := .tmp 25) (y := .tmp 26) (g := b2) (off := o2) (n := n) (c := b) (p := j) (by rfl) (by kernel_rfl) (by kernel_rfl) hlt Tryz.underlying24 szSm) (fun _ => hT) ?_
        refine AnyK.load 7 (v := .agg CB.toArray) rfl (by kernel_rfl) (by kernel_rfl) (by kernel_rfl) (fun _ _ _ h => h) rfl (fun w' hw' => ex_loadS rfl (by kernel_rfl) (run_loadAt_mid w' b2 (o2 + j * 26) 42 CB _ (fun q v hv => (World.cell?_of_block (a := ⟨b2, o2 + j * 26 + q, none⟩) (hw'.block b2 hb2)).trans (HX.out.2 q v hv)) Tryz.underlying42 rfl (by rw [HCL.out.2]; exact hdSt))) hT ?_
        refine AnyK.two_new 8 9 10 11 (d1 := 8) (d2 := 9) (e1 := 24) (e2 := 28) (by decide) 42 (stC zT pA0) CA CB rfl rfl rfl (fun _ _ => by kernel_rfl) rfl rfl rfl (fun _ _ => by kernel_rfl) rfl rfl rfl rfl rfl rfl rfl rfl (fun _ _ => by kernel_rfl) (fun _ _ => by kernel_rfl) (fun _ _ => by kernel_rfl) (fun _ _ => by kernel_rfl) (by kernel_rfl) (by kernel_rfl) (by kernel_rfl) (by kernel_rfl) (by kernel_rfl) (by kernel_rfl) hdSt HCO.out.1 HCL.out.1 HCO.out.2 HCL.out.2 (fun W hW => hT.trans hW) ?_
        intro g1 g2 w8 hg1 hg2 hk1 hk2 hB8
        rw [HCC.out.1] at hk1
        rw [HCC.out.2] at hk2
        have H0 : Hid (Blk w8 g1 42 (stC E sp) ∧ Blk w8 g2 42 (stC E tp) ∧ Below wr.heap.size wr w8) := ⟨hk1, hk2, hT.trans hB8⟩
        clear hk1 hk2 hB8 hT HX HCO HCL
        obtain ⟨kd, at_, ⟨nm, na⟩, ⟨ao, an, ax, aa, ea⟩, ⟨bo, bn, bx, ba, eb⟩, ⟨co, cn, cx, ca, ec⟩, rt, ⟨kn, ka⟩, ⟨tn, ta⟩, bd, el⟩ := E
        have HSR := Lib.hid sameRef_c
        have c0s : w8.cell? ⟨g1, 0, none⟩ = some (.string kd) := H0.out.1.cell 0
        have c0t : w8.cell? ⟨g2, 0, none⟩ = some (.string kd) := H0.out.2.1.cell 0
        have c1s : w8.cell? ⟨g1, 1, none⟩ = some (.int .i64 at_) := H0.out.1.cell 1
        have c1t : w8.cell? ⟨g2, 1, none⟩ = some (.int .i64 at_) := H0.out.2.1.cell 1
        have c2s : w8.cell? ⟨g1, 2, none⟩ = some (.string nm) := H0.out.1.cell 2
        have c2t : w8.cell? ⟨g2, 2, none⟩ = some (.string nm) := H0.out.2.1.cell 2
        have c3s : w8.cell? ⟨g1, 3, none⟩ = some (.int .i64 na) := H0.out.1.cell 3
        have c3t : w8.cell? ⟨g2, 3, none⟩ = some (.int .i64 na) := H0.out.2.1.cell 3
        go_wp2_with (first
          | (go_at_call 33; have _ := H8; (refine (HZj.out F G _ _ _ _ _ rfl _ (HK.out.1.2.2.keep (Keep.of_below H8.out.2.2 F)) (HK.out.2.2.2.keep (Keep.of_below H8.out.2.2 G))).mono ?_); rintro e v9 ⟨rfl, hB8⟩
             have H9 : Hid (Blk v9 g1 42 (stC (.mk kd at_ ⟨nm, na⟩ (.mk ao an ax aa ea) (.mk bo bn bx ba eb) (.mk co cn cx ca ec) rt ⟨kn, ka⟩ ⟨tn, ta⟩ bd el) sp) ∧ Blk v9 g2 42 (stC (.mk kd at_ ⟨nm, na⟩ (.mk ao an ax aa ea) (.mk bo bn bx ba eb) (.mk co cn cx ca ec) rt ⟨kn, ka⟩ ⟨tn, ta⟩ bd el) tp) ∧ Below wr.heap.size wr v9) := ⟨H8.out.1.below hB8 H8.out.1.lt, H8.out.2.1.below hB8 H8.out.2.1.lt, H8.out.2.2.trans (hB8.mono H8.out.2.2.size)⟩
             clear hB8)
          | (go_at_call 33; have _ := H7; (refine (HYj.out F G _ _ _ _ _ rfl _ (HK.out.1.2.1.keep (Keep.of_below H7.out.2.2 F)) (HK.out.2.2.1.keep (Keep.of_below H7.out.2.2 G))).mono ?_); rintro e v8 ⟨rfl, hB7⟩
             have H8 : Hid (Blk v8 g1 42 (stC (.mk kd at_ ⟨nm, na⟩ (.mk ao an ax aa ea) (.mk bo bn bx ba eb) (.mk co cn cx ca ec) rt ⟨kn, ka⟩ ⟨tn, ta⟩ bd el) sp) ∧ Blk v8 g2 42 (stC (.mk kd at_ ⟨nm, na⟩ (.mk ao an ax aa ea) (.mk bo bn bx ba eb) (.mk co cn cx ca ec) rt ⟨kn, ka⟩ ⟨tn, ta⟩ bd el) tp) ∧ Below wr.heap.size wr v8) := ⟨H7.out.1.below hB7 H7.out.1.lt, H7.out.2.1.below hB7 H7.out.2.1.lt, H7.out.2.2.trans (hB7.mono H7.out.2.2.size)⟩
             have d7_25s : v8.cell? ⟨g1, 25, none⟩ = some (.slice sp.z.1 el.length sp.z.2) := H8.out.1.cell 25
             have d7_25t : v8.cell? ⟨g2, 25, none⟩ = some (.slice tp.z.1 el.length tp.z.2) := H8.out.2.1.cell 25
             clear hB7)
          | (go_at_call 69; have _ := H6; (refine (sameRefs_c (F := F) (G := G) _ _ _ _ _ _ rfl HEj.out.2.2.2 _ (HK.out.1.1.2.2.2.keep (Keep.of_below H6.out.2.2 F)) (HK.out.2.1.2.2.2.keep (Keep.of_below H6.out.2.2 G))).mono ?_); rintro e v7 ⟨rfl, hB6⟩
             have H7 : Hid (Blk v7 g1 42 (stC (.mk kd at_ ⟨nm, na⟩ (.mk ao an ax aa ea) (.mk bo bn bx ba eb) (.mk co cn cx ca ec) rt ⟨kn, ka⟩ ⟨tn, ta⟩ bd el) sp) ∧ Blk v7 g2 42 (stC (.mk kd at_ ⟨nm, na⟩ (.mk ao an ax aa ea) (.mk bo bn bx ba eb) (.mk co cn cx ca ec) rt ⟨kn, ka⟩ ⟨tn, ta⟩ bd el) tp) ∧ Below wr.heap.size wr v7) := ⟨H6.out.1.below hB6 H6.out.1.lt, H6.out.2.1.below hB6 H6.out.2.1.lt, H6.out.2.2.trans (hB6.mono H6.out.2.2.size)⟩
             have d6_24s : v7.cell? ⟨g1, 24, none⟩ = some (.slice sp.y.1 bd.length sp.y.2) := H7.out.1.cell 24
             have d6_24t : v7.cell? ⟨g2, 24, none⟩ = some (.slice tp.y.1 bd.length tp.y.2) := H7.out.2.1.cell 24
             clear hB6)
          | (go_at_call 32; have _ := H5; (refine (sameExpr_c HEj.out.2.2.1 (F := F) (G := G) _ _ _ _ _ _ _ _ _ rfl _ (HK.out.1.1.2.2.1.keep (Keep.of_below H5.out.2.2 F)) (HK.out.2.1.2.2.1.keep (Keep.of_below H5.out.2.2 G))).mono ?_); rintro e v6 ⟨rfl, hB5⟩
             have H6 : Hid (Blk v6 g1 42 (stC (.mk kd at_ ⟨nm, na⟩ (.mk ao an ax aa ea) (.mk bo bn bx ba eb) (.mk co cn cx ca ec) rt ⟨kn, ka⟩ ⟨tn, ta⟩ bd el) sp) ∧ Blk v6 g2 42 (stC (.mk kd at_ ⟨nm, na⟩ (.mk ao an ax aa ea) (.mk bo bn bx ba eb) (.mk co cn cx ca ec) rt ⟨kn, ka⟩ ⟨tn, ta⟩ bd el) tp) ∧ Below wr.heap.size wr v6) := ⟨H5.out.1.below hB5 H5.out.1.lt, H5.out.2.1.below hB5 H5.out.2.1.lt, H5.out.2.2.trans (hB5.mono H5.out.2.2.size)⟩
             have d5_19s : v6.cell? ⟨g1, 19, none⟩ = some (.slice sp.r.1 rt.length sp.r.2) := H6.out.1.cell 19
             have d5_19t : v6.cell? ⟨g2, 19, none⟩ = some (.slice tp.r.1 rt.length tp.r.2) := H6.out.2.1.cell 19
             clear hB5)
          | (go_at_call 32; have _ := H4; (refine (sameExpr_c HEj.out.2.1 (F := F) (G := G) _ _ _ _ _ _ _ _ _ rfl _ (HK.out.1.1.2.1.keep (Keep.of_below H4.out.2.2 F)) (HK.out.2.1.2.1.keep (Keep.of_below H4.out.2.2 G))).mono ?_); rintro e v5 ⟨rfl, hB4⟩
             have H5 : Hid (Blk v5 g1 42 (stC (.mk kd at_ ⟨nm, na⟩ (.mk ao an ax aa ea) (.mk bo bn bx ba eb) (.mk co cn cx ca ec) rt ⟨kn, ka⟩ ⟨tn, ta⟩ bd el) sp) ∧ Blk v5 g2 42 (stC (.mk kd at_ ⟨nm, na⟩ (.mk ao an ax aa ea) (.mk bo bn bx ba eb) (.mk co cn cx ca ec) rt ⟨kn, ka⟩ ⟨tn, ta⟩ bd el) tp) ∧ Below wr.heap.size wr v5) := ⟨H4.out.1.below hB4 H4.out.1.lt, H4.out.2.1.below hB4 H4.out.2.1.lt, H4.out.2.2.trans (hB4.mono H4.out.2.2.size)⟩
             have d4_14s : v5.cell? ⟨g1, 14, none⟩ = some (.string co) := H5.out.1.cell 14
             have d4_14t : v5.cell? ⟨g2, 14, none⟩ = some (.string co) := H5.out.2.1.cell 14
             have d4_15s : v5.cell? ⟨g1, 15, none⟩ = some (.int .i64 cn) := H5.out.1.cell 15
             have d4_15t : v5.cell? ⟨g2, 15, none⟩ = some (.int .i64 cn) := H5.out.2.1.cell 15
             have d4_16s : v5.cell? ⟨g1, 16, none⟩ = some (.string cx) := H5.out.1.cell 16
             have d4_16t : v5.cell? ⟨g2, 16, none⟩ = some (.string cx) := H5.out.2.1.cell 16
             have d4_17s : v5.cell? ⟨g1, 17, none⟩ = some (.int .i64 ca) := H5.out.1.cell 17
             have d4_17t : v5.cell? ⟨g2, 17, none⟩ = some (.int .i64 ca) := H5.out.2.1.cell 17
             have d4_18s : v5.cell? ⟨g1, 18, none⟩ = some (.slice sp.c.1 ec.length sp.c.2) := H5.out.1.cell 18
             have d4_18t : v5.cell? ⟨g2, 18, none⟩ = some (.slice tp.c.1 ec.length tp.c.2) := H5.out.2.1.cell 18
             clear hB4)
          | (go_at_call 32; have _ := H3; (refine (sameExpr_c HEj.out.1 (F := F) (G := G) _ _ _ _ _ _ _ _ _ rfl _ (HK.out.1.1.1.keep (Keep.of_below H3.out.2.2 F)) (HK.out.2.1.1.keep (Keep.of_below H3.out.2.2 G))).mono ?_); rintro e v4 ⟨rfl, hB3⟩
             have H4 : Hid (Blk v4 g1 42 (stC (.mk kd at_ ⟨nm, na⟩ (.mk ao an ax aa ea) (.mk bo bn bx ba eb) (.mk co cn cx ca ec) rt ⟨kn, ka⟩ ⟨tn, ta⟩ bd el) sp) ∧ Blk v4 g2 42 (stC (.mk kd at_ ⟨nm, na⟩ (.mk ao an ax aa ea) (.mk bo bn bx ba eb) (.mk co cn cx ca ec) rt ⟨kn, ka⟩ ⟨tn, ta⟩ bd el) tp) ∧ Below wr.heap.size wr v4) := ⟨H3.out.1.below hB3 H3.out.1.lt, H3.out.2.1.below hB3 H3.out.2.1.lt, H3.out.2.2.trans (hB3.mono H3.out.2.2.size)⟩
             have d3_9s : v4.cell? ⟨g1, 9, none⟩ = some (.string bo) := H4.out.1.cell 9
             have d3_9t : v4.cell? ⟨g2, 9, none⟩ = some (.string bo) := H4.out.2.1.cell 9
             have d3_10s : v4.cell? ⟨g1, 10, none⟩ = some (.int .i64 bn) := H4.out.1.cell 10
             have d3_10t : v4.cell? ⟨g2, 10, none⟩ = some (.int .i64 bn) := H4.out.2.1.cell 10
             have d3_11s : v4.cell? ⟨g1, 11, none⟩ = some (.string bx) := H4.out.1.cell 11
             have d3_11t : v4.cell? ⟨g2, 11, none⟩ = some (.string bx) := H4.out.2.1.cell 11
             have d3_12s : v4.cell? ⟨g1, 12, none⟩ = some (.int .i64 ba) := H4.out.1.cell 12
             have d3_12t : v4.cell? ⟨g2, 12, none⟩ = some (.int .i64 ba) := H4.out.2.1.cell 12
             have d3_13s : v4.cell? ⟨g1, 13, none⟩ = some (.slice sp.b.1 eb.length sp.b.2) := H4.out.1.cell 13
             have d3_13t : v4.cell? ⟨g2, 13, none⟩ = some (.slice tp.b.1 eb.length tp.b.2) := H4.out.2.1.cell 13
             clear hB3)
          | (go_at_call 31; have _ := H2; (refine (HSR.out ⟨tn, ta⟩ _).mono ?_); rintro e v3 ⟨rfl, hB2⟩
             have H3 : Hid (Blk v3 g1 42 (stC (.mk kd at_ ⟨nm, na⟩ (.mk ao an ax aa ea) (.mk bo bn bx ba eb) (.mk co cn cx ca ec) rt ⟨kn, ka⟩ ⟨tn, ta⟩ bd el) sp) ∧ Blk v3 g2 42 (stC (.mk kd at_ ⟨nm, na⟩ (.mk ao an ax aa ea) (.mk bo bn bx ba eb) (.mk co cn cx ca ec) rt ⟨kn, ka⟩ ⟨tn, ta⟩ bd el) tp) ∧ Below wr.heap.size wr v3) := ⟨H2.out.1.below hB2 H2.out.1.lt, H2.out.2.1.below hB2 H2.out.2.1.lt, H2.out.2.2.trans (hB2.mono H2.out.2.2.size)⟩
             have d2_4s : v3.cell? ⟨g1, 4, none⟩ = some (.string ao) := H3.out.1.cell 4
             have d2_4t : v3.cell? ⟨g2, 4, none⟩ = some (.string ao) := H3.out.2.1.cell 4
             have d2_5s : v3.cell? ⟨g1, 5, none⟩ = some (.int .i64 an) := H3.out.1.cell 5
             have d2_5t : v3.cell? ⟨g2, 5, none⟩ = some (.int .i64 an) := H3.out.2.1.cell 5
             have d2_6s : v3.cell? ⟨g1, 6, none⟩ = some (.string ax) := H3.out.1.cell 6
             have d2_6t : v3.cell? ⟨g2, 6, none⟩ = some (.string ax) := H3.out.2.1.cell 6
             have d2_7s : v3.cell? ⟨g1, 7, none⟩ = some (.int .i64 aa) := H3.out.1.cell 7
             have d2_7t : v3.cell? ⟨g2, 7, none⟩ = some (.int .i64 aa) := H3.out.2.1.cell 7
             have d2_8s : v3.cell? ⟨g1, 8, none⟩ = some (.slice sp.a.1 ea.length sp.a.2) := H3.out.1.cell 8
             have d2_8t : v3.cell? ⟨g2, 8, none⟩ = some (.slice tp.a.1 ea.length tp.a.2) := H3.out.2.1.cell 8
             clear hB2)
          | (go_at_call 31; have _ := H1; (refine (HSR.out ⟨kn, ka⟩ _).mono ?_); rintro e v2 ⟨rfl, hB1⟩
             have H2 : Hid (Blk v2 g1 42 (stC (.mk kd at_ ⟨nm, na⟩ (.mk ao an ax aa ea) (.mk bo bn bx ba eb) (.mk co cn cx ca ec) rt ⟨kn, ka⟩ ⟨tn, ta⟩ bd el) sp) ∧ Blk v2 g2 42 (stC (.mk kd at_ ⟨nm, na⟩ (.mk ao an ax aa ea) (.mk bo bn bx ba eb) (.mk co cn cx ca ec) rt ⟨kn, ka⟩ ⟨tn, ta⟩ bd el) tp) ∧ Below wr.heap.size wr v2) := ⟨H1.out.1.below hB1 H1.out.1.lt, H1.out.2.1.below hB1 H1.out.2.1.lt, H1.out.2.2.trans (hB1.mono H1.out.2.2.size)⟩
             have d1_22s : v2.cell? ⟨g1, 22, none⟩ = some (.string tn) := H2.out.1.cell 22
             have d1_22t : v2.cell? ⟨g2, 22, none⟩ = some (.string tn) := H2.out.2.1.cell 22
             have d1_23s : v2.cell? ⟨g1, 23, none⟩ = some (.int .i64 ta) := H2.out.1.cell 23
             have d1_23t : v2.cell? ⟨g2, 23, none⟩ = some (.int .i64 ta) := H2.out.2.1.cell 23
             clear hB1)
          | (go_at_call 31; have _ := H0; (refine (HSR.out ⟨nm, na⟩ _).mono ?_); rintro e v1 ⟨rfl, hB0⟩
             have H1 : Hid (Blk v1 g1 42 (stC (.mk kd at_ ⟨nm, na⟩ (.mk ao an ax aa ea) (.mk bo bn bx ba eb) (.mk co cn cx ca ec) rt ⟨kn, ka⟩ ⟨tn, ta⟩ bd el) sp) ∧ Blk v1 g2 42 (stC (.mk kd at_ ⟨nm, na⟩ (.mk ao an ax aa ea) (.mk bo bn bx ba eb) (.mk co cn cx ca ec) rt ⟨kn, ka⟩ ⟨tn, ta⟩ bd el) tp) ∧ Below wr.heap.size wr v1) := ⟨H0.out.1.below hB0 H0.out.1.lt, H0.out.2.1.below hB0 H0.out.2.1.lt, H0.out.2.2.trans (hB0.mono H0.out.2.2.size)⟩
             have d0_20s : v1.cell? ⟨g1, 20, none⟩ = some (.string kn) := H1.out.1.cell 20
             have d0_20t : v1.cell? ⟨g2, 20, none⟩ = some (.string kn) := H1.out.2.1.cell 20
             have d0_21s : v1.cell? ⟨g1, 21, none⟩ = some (.int .i64 ka) := H1.out.1.cell 21
             have d0_21t : v1.cell? ⟨g2, 21, none⟩ = some (.int .i64 ka) := H1.out.2.1.cell 21
             clear hB0))
        go_roundg (gk - 1)
        case measure => omega
        case rel => exact ⟨j + 1, by omega, by omega, by simp, Lib.hid (HR.out.trans (H9.out.2.2.mono HR.out.size))⟩
end
end Go.Proofs.YtafjkbbiaopemaaGreatDoor.Tr
