/- Part of the proof: Rg, HdA, Lez, EqB, Exg. -/
import Derived.OrdersHeld
import Derived.ChangeKeysEq
import Derived.Test.YtpgpaenloaphaaaGreatPpx01
namespace Go.Proofs.YtpgpaenloaphaaaGreat
open Go.RowKit
def Wrote (g : Nat) (w w' : World) : Prop := w.grownBy w' (some g)
theorem Below.wrote {w w1 w2 : World} {g : Nat} (hb : Below w.heap.size w w1) (h : Wrote g w1 w2) : Wrote g w w2 :=
 ⟨h.os.trans hb.os, h.tape.trans hb.tape, h.output.trans hb.output, Nat.le_trans hb.size h.size, fun k hk hne => (h.block k (Nat.lt_of_lt_of_le hk hb.size) hne).trans (hb.block k hk)⟩
theorem Wrote.trans {w w1 w2 : World} {g : Nat} (hb : Wrote g w w1) (h : Wrote g w1 w2) : Wrote g w w2 :=
 ⟨h.os.trans hb.os, h.tape.trans hb.tape, h.output.trans hb.output, Nat.le_trans hb.size h.size, fun k hk hne => (h.block k (Nat.lt_of_lt_of_le hk hb.size) hne).trans (hb.block k hk hne)⟩
theorem Wrote.of_below {w w1 : World} {g : Nat} (hb : Below w.heap.size w w1) : Wrote g w w1 := ⟨hb.os, hb.tape, hb.output, hb.size, fun k hk _ => hb.block k hk⟩
theorem Wrote.refl (w : World) (g : Nat) : Wrote g w w := Wrote.of_below (Below.refl _ _)
theorem Wrote.then {w w1 w2 : World} {g : Nat} (hb : Wrote g w w1) (h : Below w1.heap.size w1 w2) : Wrote g w w2 := hb.trans (Wrote.of_below h)
theorem Wrote.only {w w1 w2 : World} {g : Nat} (hb : Wrote g w w1) (h : Only w1 w2 g) : Wrote g w w2 := hb.trans h.grown
theorem Wrote.setCell {w w1 : World} {g : Nat} (hb : Wrote g w w1) (i : Nat) (u : Value) : Wrote g w (w1.setCell ⟨g, i, none⟩ u) :=
 ⟨hb.os, hb.tape, hb.output, by have := hb.size; simpa [World.setCell] using this, fun k hk hne => (Below.heap_setCell w1 ⟨g, i, none⟩ u k (fun e => hne (by rw [e]))).trans (hb.block k hk hne)⟩
theorem Wrote.alloc {w w1 : World} {g : Nat} (hb : Wrote g w w1) (o : Obj) : Wrote g w (w1.alloc o) := hb.then ((Below.refl _ _).alloc (Nat.le_refl _) o)
theorem Wrote.drew {w w1 : World} {g : Nat} (hb : Wrote g w w1) : Wrote g w w1.drew := hb.then (Below.refl _ _).drew
theorem Wrote.below {B g : Nat} {w0 w w' : World} (h : Wrote g w w') (hb : Below B w0 w) (hg : B ≤ g) (hB : B ≤ w.heap.size) : Below B w0 w' :=
 hb.grown h hB (fun k hk => by injection hk with hk; omega)
theorem Rd.wrote {w w' : World} {A : Option Addr} {n g : Nat} {xs : List Value} (h : Rd w A n xs) (hw : Wrote g w w') (hA : 0 < n → ∀ ad : Addr, A = some ad → ad.block ≠ g) : Rd w' A n xs :=
 ⟨h.1, fun hn => by
   obtain ⟨b, off, e, hbl, hc⟩ := h.2 hn
   exact ⟨b, off, e, Nat.lt_of_lt_of_le hbl hw.size, fun j u hu => (World.grownBy.cell_far hw ⟨b, off + j, none⟩ hbl (fun e' => hA hn _ e (by injection e'))).trans (hc j u hu)⟩⟩
theorem Rd.apart {w : World} {A : Option Addr} {n g : Nat} {xs : List Value} (h : Rd w A n xs) (hg : w.heap.size ≤ g) : 0 < n → ∀ ad : Addr, A = some ad → ad.block ≠ g := fun hn ad e => by
 obtain ⟨b, off, e', hbl, _⟩ := h.2 hn
 rw [e] at e'
 injection e' with e'
 subst e'
 show b ≠ g
 omega
theorem Blk.wrote {w w' : World} {g g' : Nat} {t : TypeId} {cs : List Value} (h : Blk w g' t cs) (hw : Wrote g w w') (hne : g' ≠ g) : Blk w' g' t cs := h.grown hw (fun e => hne (by injection e))
end Go.Proofs.YtpgpaenloaphaaaGreat
/- Regions that draw their order, where loads come ahead of one store k: what is loaded need only stand until k comes up. No program in sight. -/
namespace Go.Proofs.YtpgpaenloaphaaaGreat
open Go.RowKit
section
variable {P : Program} {ops : Array Oper} {Q : Exit → Act → World → Prop} {md : Region.Mode} {T : World → Prop} {k : Nat}
def AnyK (P : Program) (md : Region.Mode) (ops : Array Oper) (Q : Exit → Act → World → Prop) (k : Nat) (T : World → Prop) : Nat → Array Bool → Act → World → Prop
 | 0, listed, a, w => Region.ready md ops listed = [] ∧ Q .normal a w
 | fuel + 1, listed, a, w =>
   (Region.ready md ops listed = [] → Q .normal a w) ∧
   ∀ i ∈ Region.ready md ops listed, wpOp P ops Q i (fun a' w' => ((listed.setIfInBounds i true).getD k true = false → T w') ∧ AnyK P md ops Q k T fuel (listed.setIfInBounds i true) a' w') a w
theorem AnyK.any : ∀ (fuel : Nat) (listed : Array Bool) (a : Act) (w : World), AnyK P md ops Q k T fuel listed a w → wpAny P md ops Q fuel listed a w
 | 0, _, _, _, h => h
 | fuel + 1, _, _, _, h => ⟨h.1, fun i hi => wpOp_mono (fun a' w' h' => AnyK.any fuel _ a' w' h'.2) (h.2 i hi)⟩
theorem region_K {id : Nat} {a : Act} {w : World} (hm : P.follows .mixedOrders = true) (k : Nat) (T : World → Prop)
   (h : AnyK P .any ops Q k T ops.size (Array.replicate ops.size false) a { w with drawn := w.drawn + 1 }) : (Code.region id ops true).wp P Q a w :=
 wp_region_any hm (AnyK.any _ _ _ _ h)
theorem AnyK.first {i : Nat} {oi : Oper} {v : Value} {S : World → Prop} (hi : ops[i]? = some oi) (hik : i ≠ k) (hsel : ∀ (j : Nat) (o : Oper) cs b, ops[j]? = some o → o.op ≠ .select cs b)
   (hQ : ∀ c a w, Q (.panic c) (a.put oi.dst v) w → Q (.panic c) a w)
   (hS : (∀ w, S w) ∨ ((∀ w, T w → S w) ∧ ∃ ok, ops[k]? = some ok ∧ ∃ e ∈ ok.after, Region.binds md e = true ∧ e.on = i)) :
   ∀ (fuel : Nat) (listed : Array Bool) (a : Act) (w : World),
     (∀ j oj, ops[j]? = some oj → j ≠ i → listed.getD j true = false → (∀ e ∈ oj.after, Region.binds md e = true → e.on ≠ i) → oi.apart ops oj = true) →
     i ∈ Region.ready md ops listed → YieldsIf P ops S oi v a → S w → (listed.getD k true = false → T w) → ((∀ w, S w) ∨ listed.getD k true = false) →
     AnyK P md ops Q k T fuel (listed.setIfInBounds i true) (a.put oi.dst v) w → AnyK P md ops Q k T (fuel + 1) listed a w := by
 have hset : ∀ (L : Array Bool), (L.setIfInBounds i true).getD k true = L.getD k true := fun L => getD_set_ne true hik
 intro fuel
 induction fuel with
 | zero =>
   intro listed a w _ hr hy hSw hT _ H
   refine ⟨fun h => (by rw [h] at hr; cases hr), fun j hj => ?_⟩
   by_cases hji : j = i
   · subst hji; exact hy.wpOp hi hSw ⟨fun h => hT (by rwa [hset] at h), H⟩
   · have := ready_mono hj hji
     rw [H.1] at this
     cases this
 | succ fuel ih =>
   intro listed a w hfree hr hy hSw hT hl H
   refine ⟨fun h => (by rw [h] at hr; cases hr), fun j hj => ?_⟩
   by_cases hji : j = i
   · subst hji; exact hy.wpOp hi hSw ⟨fun h => hT (by rwa [hset] at h), H⟩
   · have h1 := H.2 j (ready_mono hj hji)
     obtain ⟨hjun, oj, hoj, hall⟩ := mem_ready.1 hj
     have hnot : ∀ e ∈ oj.after, Region.binds md e = true → e.on ≠ i := fun e he hb heq => by
       have h1 := hall e he hb
       have h0 := (mem_ready.1 hr).1
       rw [heq] at h1
       rcases Nat.lt_or_ge i listed.size with h' | h'
       · simp [h'] at h0 h1; rw [h0] at h1; cases h1
       · simp [Array.getElem?_eq_none h'] at h1
     have h2 := wpOp_putIf hoj (hfree j oj hoj hji hjun hnot) (fun cs b => hsel i oi cs b hi) (fun cs b => hsel j oj cs b hoj) hQ hy h1
     have hfree' : ∀ k ok, ops[k]? = some ok → k ≠ i → (listed.setIfInBounds j true).getD k true = false →
         (∀ e ∈ ok.after, Region.binds md e = true → e.on ≠ i) → oi.apart ops ok = true := fun k ok hk hki hun hno => by
       refine hfree k ok hk hki ?_ hno
       by_cases hjk : j = k
       · subst hjk; exact hjun
       · rw [getD_set_ne true hjk] at hun; exact hun
     have hkj : (∀ w, S w) ∨ (listed.setIfInBounds j true).getD k true = false := by
       rcases hS with hS | ⟨_, ok, hok, e, he, hb, hei⟩
       · exact .inl hS
       · rcases hl with hl | hl
         · exact .inl hl
         · have hjk : j ≠ k := by
             rintro rfl
             rw [hok] at hoj
             injection hoj with hoj
             subst hoj
             exact hnot e he hb hei
           exact .inr (by rw [getD_set_ne true hjk]; exact hl)
     refine wpOp_mono (fun a' w' h3 => ?_) h2
     have hT' : (listed.setIfInBounds j true).getD k true = false → T w' := fun h => h3.2.1 (by rw [Array.setIfInBounds_comm _ _ (Ne.symm hji), hset]; exact h)
     refine ⟨hT', ih (listed.setIfInBounds j true) a' w' hfree' (ready_mono hr (Ne.symm hji)) h3.1 ?_ hT' hkj ?_⟩
     · rcases hkj with hkj | hkj
       · exact hkj w'
       · rcases hS with hS | ⟨hS, _⟩
         · exact hS w'
         · exact hS w' (hT' hkj)
     · rw [Array.setIfInBounds_comm _ _ hji]
       exact h3.2.2
def awaits (md : Region.Mode) (ops : Array Oper) (k i : Nat) : Bool := match ops[k]? with | some ok => ok.after.any fun e => Region.binds md e && e.on == i | none => false
theorem awaits_spec {i : Nat} (h : awaits md ops k i = true) : ∃ ok, ops[k]? = some ok ∧ ∃ e ∈ ok.after, Region.binds md e = true ∧ e.on = i := by
 unfold awaits at h
 split at h
 · rename_i ok hk
   obtain ⟨e, he, hb⟩ := Array.any_eq_true'.1 h
   simp only [Bool.and_eq_true, beq_iff_eq] at hb
   exact ⟨ok, hk, e, he, hb.1, hb.2⟩
 · cases h
def takeB (md : Region.Mode) (ops : Array Oper) (listed : Array Bool) (k i : Nat) : Bool := decide (i ≠ k) && Region.noSelect ops && Region.free md ops listed i && (Region.ready md ops listed).contains i
theorem AnyK.pure {fuel : Nat} {listed : Array Bool} {a : Act} {w : World} (i : Nat) {oi : Oper} {v : Value} (hi : ops[i]? = some oi) (hd : takeB md ops listed k i = true)
   (hQ : ∀ c a w, Q (.panic c) (a.put oi.dst v) w → Q (.panic c) a w) (hg : oi.guard = none) (hy : ∀ w, (execOp a.eval oi).run P w = .ok (.value v) w) (hT : listed.getD k true = false → T w)
   (h : AnyK P md ops Q k T fuel (listed.setIfInBounds i true) (a.put oi.dst v) w) : AnyK P md ops Q k T (fuel + 1) listed a w := by
 simp only [takeB, Bool.and_eq_true, decide_eq_true_eq] at hd
 obtain ⟨⟨⟨h1, h2⟩, h3⟩, h4⟩ := hd
 exact AnyK.first (S := fun _ => True) hi h1 (Region.noSelect_spec h2) hQ (.inl fun _ => trivial) fuel listed a w (Region.free_spec hi h3) (by simpa using h4) (.inl ⟨by simp [Region.wanted, hg], fun w _ => hy w⟩) trivial hT (.inl fun _ => trivial) h
theorem AnyK.load {fuel : Nat} {listed : Array Bool} {a : Act} {w : World} (i : Nat) {oi : Oper} {v : Value} (hi : ops[i]? = some oi) (hd : takeB md ops listed k i = true) (hk : awaits md ops k i = true) (hl : listed.getD k true = false)
   (hQ : ∀ c a w, Q (.panic c) (a.put oi.dst v) w → Q (.panic c) a w) (hg : oi.guard = none) (hy : ∀ w, T w → (execOp a.eval oi).run P w = .ok (.value v) w) (hT : T w)
   (h : AnyK P md ops Q k T fuel (listed.setIfInBounds i true) (a.put oi.dst v) w) : AnyK P md ops Q k T (fuel + 1) listed a w := by
 simp only [takeB, Bool.and_eq_true, decide_eq_true_eq] at hd
 obtain ⟨⟨⟨h1, h2⟩, h3⟩, h4⟩ := hd
 exact AnyK.first (S := T) hi h1 (Region.noSelect_spec h2) hQ (.inr ⟨fun _ h => h, awaits_spec hk⟩) fuel listed a w (Region.free_spec hi h3) (by simpa using h4) (.inl ⟨by simp [Region.wanted, hg], hy⟩) hT (fun _ => hT) (.inr hl) h
theorem AnyK.one {fuel : Nat} {listed : Array Bool} {a : Act} {w : World} (i : Nat) {oi : Oper} (hi : ops[i]? = some oi) (hr : Region.ready md ops listed = [i]) (hg : oi.guard = none)
   (h : oi.wp P a w (fun a' w' => ((listed.setIfInBounds i true).getD k true = false → T w') ∧ AnyK P md ops Q k T fuel (listed.setIfInBounds i true) a' w') Q) : AnyK P md ops Q k T (fuel + 1) listed a w := by
 refine ⟨fun h0 => (by rw [hr] at h0; cases h0), fun j hj => ?_⟩
 rw [hr] at hj
 obtain rfl : j = i := by simpa using hj
 unfold wpOp
 simp only [hi]
 rw [if_pos (by simp [Region.wanted, hg])]
 exact .inl h
theorem AnyK.enter {fuel : Nat} {listed : Array Bool} {a : Act} {w : World} (i : Nat) {d : Option Tmp} {f : FuncId} {args : Array Value} (hi : (ops[i]?).map (fun o => (o.dst, o.guard)) = some (d, none)) (hrun : (ops[i]?).map (fun o => (execOp a.eval o).run P w) = some (.ok (.enter f args) w)) (hr : Region.ready md ops listed = [i])
   (h : Calls P f args w fun e w' => ∃ v, e = .returned v ∧ ((listed.setIfInBounds i true).getD k true = false → T w') ∧ AnyK P md ops Q k T fuel (listed.setIfInBounds i true) (a.put d v) w') : AnyK P md ops Q k T (fuel + 1) listed a w := by
 cases ho : ops[i]? with
 | none => simp [ho] at hi
 | some o =>
   simp only [ho, Option.map_some, Option.some.injEq, Prod.mk.injEq] at hi hrun
   obtain ⟨rfl, hg⟩ := hi
   refine AnyK.one i ho hr hg ?_
   unfold Oper.wp
   rw [hrun]
   refine Calls.mono h ?_
   rintro e w' ⟨v, rfl, h1, h2⟩
   exact ⟨h1, h2⟩
theorem AnyK.store {fuel : Nat} {listed : Array Bool} {a : Act} {w w' : World} (i : Nat) {d : Option Tmp} {op : Op} (hi : (ops[i]?).map (fun o => (o.dst, o.op, o.guard)) = some (d, op, none)) (hrun : ∀ o : Oper, o.op = op → (execOp a.eval o).run P w = .ok .skip w') (hr : Region.ready md ops listed = [i])
   (h1 : (listed.setIfInBounds i true).getD k true = false → T w') (h : AnyK P md ops Q k T fuel (listed.setIfInBounds i true) (a.put d undef) w') : AnyK P md ops Q k T (fuel + 1) listed a w := by
 cases ho : ops[i]? with
 | none => simp [ho] at hi
 | some o =>
   simp only [ho, Option.map_some, Option.some.injEq, Prod.mk.injEq] at hi
   obtain ⟨rfl, hop, hg⟩ := hi
   refine AnyK.one i ho hr hg ?_
   unfold Oper.wp
   rw [hrun o hop]
   exact ⟨h1, h⟩
theorem AnyK.done {fuel : Nat} {listed : Array Bool} {a : Act} {w : World} (hr : Region.ready md ops listed = []) (h : Q .normal a w) : AnyK P md ops Q k T fuel listed a w := by
 cases fuel with
 | zero => exact ⟨hr, h⟩
 | succ fuel => exact ⟨fun _ => h, by rw [hr]; simp⟩
end
end Go.Proofs.YtpgpaenloaphaaaGreat
/- Regions that draw their order: a call, a new variable and the store of the call's result into it, in either order. No program in sight. -/
namespace Go.Proofs.YtpgpaenloaphaaaGreat
open Go.RowKit
section
variable {P : Program} {ops : Array Oper} {Q : Exit → Act → World → Prop} {md : Region.Mode} {T : World → Prop} {k : Nat}
theorem AnyK.fork {fuel : Nat} {listed : Array Bool} {a : Act} {w : World} (i j : Nat) {oi oj : Oper} (hi : ops[i]? = some oi) (hj : ops[j]? = some oj) (hr : Region.ready md ops listed = [i, j]) (hg : oi.guard = none) (hg' : oj.guard = none)
   (h : oi.wp P a w (fun a' w' => ((listed.setIfInBounds i true).getD k true = false → T w') ∧ AnyK P md ops Q k T fuel (listed.setIfInBounds i true) a' w') Q)
   (h' : oj.wp P a w (fun a' w' => ((listed.setIfInBounds j true).getD k true = false → T w') ∧ AnyK P md ops Q k T fuel (listed.setIfInBounds j true) a' w') Q) : AnyK P md ops Q k T (fuel + 1) listed a w := by
 refine ⟨fun h0 => (by rw [hr] at h0; cases h0), fun x hx => ?_⟩
 rw [hr] at hx
 have hx' : x = i ∨ x = j := by simpa using hx
 rcases hx' with rfl | rfl
 · unfold wpOp
   simp only [hi]
   rw [if_pos (by simp [Region.wanted, hg])]
   exact .inl h
 · unfold wpOp
   simp only [hj]
   rw [if_pos (by simp [Region.wanted, hg'])]
   exact .inl h'
theorem AnyK.val {fuel : Nat} {listed : Array Bool} {a : Act} {w : World} (i : Nat) {oi : Oper} {v : Value} (hi : ops[i]? = some oi) (hr : Region.ready md ops listed = [i]) (hg : oi.guard = none) (hy : (execOp a.eval oi).run P w = .ok (.value v) w)
   (h1 : (listed.setIfInBounds i true).getD k true = false → T w) (h : AnyK P md ops Q k T fuel (listed.setIfInBounds i true) (a.put oi.dst v) w) : AnyK P md ops Q k T (fuel + 1) listed a w := by
 refine AnyK.one i hi hr hg ?_
 unfold Oper.wp
 rw [hy, Oper.upon_value]
 exact ⟨h1, h⟩
theorem AnyK.call_alloc {fuel : Nat} {listed : Array Bool} {a : Act} {w : World} (i j s : Nat) {d1 d2 : Tmp} (hd : d1 ≠ d2) {f : FuncId} {args : Array Value} {ty : TypeId} (cs Z : List Value) {oi oj os : Oper}
   (hi : ops[i]? = some oi) (hid : oi.dst = some d1) (hig : oi.guard = none) (hirun : ∀ w p, (execOp a.eval oi).run P w = .ok (.enter f args) w ∧ (execOp (a.put (some d2) p).eval oi).run P w = .ok (.enter f args) w)
   (hj : ops[j]? = some oj) (hjd : oj.dst = some d2) (hjg : oj.guard = none) (hjrun : ∀ (b : Act) w, (execOp b.eval oj).run P w = .ok (.value (.pointer (some ⟨w.heap.size, 0, none⟩))) (w.alloc (.cells Z.toArray ty)))
   (hs : ops[s]? = some os) (hsd : os.dst = none) (hsg : os.guard = none) (hso : os.op = .store ty (.tmp d2) (.tmp d1))
   (he1 : ∀ (x y : Value), ((a.put (some d1) x).put (some d2) y).eval (.tmp d1) = x) (he2 : ∀ (x y : Value), ((a.put (some d1) x).put (some d2) y).eval (.tmp d2) = y)
   (hr0 : Region.ready md ops listed = [i, j]) (hri : Region.ready md ops (listed.setIfInBounds i true) = [j]) (hrj : Region.ready md ops (listed.setIfInBounds j true) = [i]) (hrs : Region.ready md ops ((listed.setIfInBounds i true).setIfInBounds j true) = [s])
   (hcall : ∀ W, Below w.heap.size w W → Calls P f args W fun e w' => e = .returned (.agg cs.toArray) ∧ Below W.heap.size W w')
   (hsz : (P.info? ty).map (·.size) = some cs.length) (hone : ∀ v ∈ cs, v.oneCell' = true) (hlen : cs.length = Z.length)
   (hT : ∀ W, Below w.heap.size w W → T W)
   (hcont : ∀ g W, w.heap.size ≤ g → Blk W g ty cs → Below w.heap.size w W → AnyK P md ops Q k T fuel (((listed.setIfInBounds i true).setIfInBounds j true).setIfInBounds s true) (((a.put (some d1) (.agg cs.toArray)).put (some d2) (.pointer (some ⟨g, 0, none⟩))).put none undef) W) :
   AnyK P md ops Q k T (fuel + 3) listed a w := by
 have hij : i ≠ j := by
   rintro rfl
   rw [hi] at hj
   injection hj with hj
   subst hj
   rw [hid] at hjd
   injection hjd with hjd
   exact hd hjd
 have fin : ∀ g W, w.heap.size ≤ g → Blk W g ty Z → Below w.heap.size w W → AnyK P md ops Q k T (fuel + 1) ((listed.setIfInBounds i true).setIfInBounds j true) ((a.put (some d1) (.agg cs.toArray)).put (some d2) (.pointer (some ⟨g, 0, none⟩))) W := fun g W hg hb hB => by
   refine AnyK.one s hs hrs hsg ?_
   refine wp_store ty (.tmp d2) (.tmp d1) hso g 0 cs (he2 _ _) (he1 _ _) ty Z hb hsz hone (by omega) ?_
   intro w' hb' ho'
   rw [splice_whole _ _ hlen] at hb'
   have hB' := ho'.below hB hg hB.size
   rw [hsd]
   exact ⟨fun _ => hT _ hB', hcont g w' hg hb' hB'⟩
 refine AnyK.fork i j hi hj hr0 hig hjg ?_ ?_
 · unfold Oper.wp
   rw [(hirun w undef).1]
   refine Calls.mono (hcall w (Below.refl _ _)) ?_
   rintro e w1 ⟨rfl, hB1⟩
   refine ⟨fun _ => hT _ hB1, ?_⟩
   rw [hid]
   refine AnyK.one j hj hri hjg ?_
   unfold Oper.wp
   rw [hjrun]
   have hB2 := hB1.alloc hB1.size (.cells Z.toArray ty)
   rw [Oper.upon_value, hjd]
   exact ⟨fun _ => hT _ hB2, fin _ _ hB1.size (Blk.new _ _ _) hB2⟩
 · unfold Oper.wp
   rw [hjrun]
   have hB2 := (Below.refl w.heap.size w).alloc (Nat.le_refl _) (.cells Z.toArray ty)
   rw [Oper.upon_value, hjd]
   refine ⟨fun _ => hT _ hB2, ?_⟩
   refine AnyK.one i hi hrj hig ?_
   unfold Oper.wp
   rw [(hirun _ _).2]
   refine Calls.mono (hcall _ hB2) ?_
   rintro e w1 ⟨rfl, hB1⟩
   have hB3 := hB2.trans (hB1.mono hB2.size)
   refine ⟨fun _ => hT _ hB3, ?_⟩
   rw [hid, Array.setIfInBounds_comm _ _ (Ne.symm hij), Act.put_comm a _ _ (fun d h1 h2 => hd (by injection h1 with h1; injection h2 with h2; rw [h1, h2]))]
   exact fin _ _ (Nat.le_refl _) ((Blk.new w ty Z).below hB1 (by simp)) hB3
end
end Go.Proofs.YtpgpaenloaphaaaGreat
/- More words: loads and stores of long values. -/
namespace Go.Proofs.YtpgpaenloaphaaaGreat
open Go.RowKit
/-! ### loads and stores of long values, sealed: the walk does not open them; a hypothesis (a rule over a world) says what they do -/
def ldAt (ty : TypeId) (v : Value) : Sem Value := Instr.loadAt ty v
def stAt (ty : TypeId) (p v : Value) : Sem Unit := Instr.storeAt ty p v
def eqAt (ty : TypeId) (x y : Value) : Sem Value := binOp .eql ty x y
def neAt (ty : TypeId) (x y : Value) : Sem Value := binOp .neq ty x y
theorem ldAt_run {P : Program} {w : World} {g : Nat} {t : TypeId} {cs : List Value} (hB : Blk w g t cs) (ty : TypeId) (o : Nat) (ds : List Value) (hd : (cs.drop o).take ds.length = ds) (d : TypeDesc) (hu : P.underlying ty = some d) (hr : d.isRow = true) (hi : (P.info? ty).map (·.size) = some ds.length) :
   (ldAt ty (.pointer (some ⟨g, o, none⟩))).run P w = .ok (.agg ds.toArray) w :=
 run_loadAt_mid w g o ty ds d (hB.mid o ds fun j v hv => by
   rw [← hd, List.getElem?_take] at hv
   split at hv
   · simpa using hv
   · cases hv) hu hr hi
theorem stAt_run {P : Program} {w : World} {g : Nat} {t : TypeId} {cs : List Value} (hB : Blk w g t cs) (ty : TypeId) (o : Nat) (ds : List Value) (hfit : o + ds.length ≤ cs.length) (h1 : ∀ v ∈ ds, v.oneCell' = true) (hi : (P.info? ty).map (·.size) = some ds.length) :
   (stAt ty (.pointer (some ⟨g, o, none⟩)) (.agg ds.toArray)).run P w = .ok () (w.setCells g o ds) := by
 have h := run_storeAt_mid (P := P) w g o ty ds.toArray (by simpa using hB.there o ds.length hfit) (by simpa using hi) (all_oneCell_toArray h1)
 exact h
theorem Blk.set_ {w : World} {g : Nat} {t : TypeId} {cs : List Value} (h : Blk w g t cs) (i : Nat) (u : Value) : Blk (w.setCell ⟨g, i, none⟩ u) g t (cs.set i u) := by
 unfold Blk at h ⊢
 simp [World.setCell, Array.getElem?_modify, h]
theorem u8s_set (l : List UInt8) (i : Nat) (c : UInt8) : (u8s l).set i (.int .u8 c.toNat) = u8s (l.set i c) := by unfold u8s; rw [List.map_set]; rfl
theorem set_pad {α : Type} (l : List α) (z x : α) (k n : Nat) (hk : k < n) (hx : l[k]? = some x) : (l.take k ++ rep (n - k) z).set k x = l.take (k + 1) ++ rep (n - (k + 1)) z := by
 have hl : k < l.length := (List.getElem?_eq_some_iff.1 hx).1
 have h1 : (l.take k).length = k := by simp; omega
 have e : rep (n - k) z = z :: rep (n - (k + 1)) z := by
   unfold rep
   rw [show n - k = (n - (k + 1)) + 1 from by omega, List.replicate_succ]
 rw [e, List.set_append_right _ _ (by omega), h1, Nat.sub_self, List.set_cons_zero, List.take_add_one, hx]
 simp
end Go.Proofs.YtpgpaenloaphaaaGreat
/- Regions that draw their order, with one new variable that may be made at any time. No program in sight. -/
namespace Go.Proofs.YtpgpaenloaphaaaGreat
open Go.RowKit
section
variable {P : Program} {ops : Array Oper} {Q : Exit → Act → World → Prop} {md : Region.Mode} {T : World → Prop} {k : Nat}
def fAct (a : Act) (d : Tmp) : Option Nat → Act
 | none => a
 | some g => a.put (some d) (.pointer (some ⟨g, 0, none⟩))
def fSet (L : Array Bool) (j : Nat) : Option Nat → Array Bool
 | none => L
 | some _ => L.setIfInBounds j true
def fWorld (B : Nat) (ty : TypeId) (Z : List Value) (W : World) : Option Nat → Prop
 | none => True
 | some g => B ≤ g ∧ Blk W g ty Z
def fFuel (fuel : Nat) : Option Nat → Nat
 | none => fuel + 1
 | some _ => fuel
def AnyF (P : Program) (md : Region.Mode) (ops : Array Oper) (Q : Exit → Act → World → Prop) (k : Nat) (T : World → Prop) (j : Nat) (d : Tmp) (B : Nat) (ty : TypeId) (Z : List Value) (fuel : Nat) (listed : Array Bool) (a : Act) (R : World → Prop) : Prop :=
 ∀ st W, R W → fWorld B ty Z W st → AnyK P md ops Q k T (fFuel fuel st) (fSet listed j st) (fAct a d st) W
variable {j : Nat} {d : Tmp} {B : Nat} {ty : TypeId} {Z : List Value}
theorem AnyF.start {fuel : Nat} {listed : Array Bool} {a : Act} {w : World} (j : Nat) (d : Tmp) (B : Nat) (ty : TypeId) (Z : List Value) (R : World → Prop) (hR : R w) (h : AnyF P md ops Q k T j d B ty Z fuel listed a R) : AnyK P md ops Q k T (fuel + 1) listed a w := h none w hR trivial
theorem fSet_comm (L : Array Bool) (i j : Nat) (h : i ≠ j) (st : Option Nat) : (fSet L j st).setIfInBounds i true = fSet (L.setIfInBounds i true) j st := by
 cases st with
 | none => rfl
 | some g => exact Array.setIfInBounds_comm _ _ (Ne.symm h)
theorem fAct_comm (a : Act) (d : Tmp) (x : Option Tmp) (v : Value) (h : x ≠ some d) (st : Option Nat) : (fAct a d st).put x v = fAct (a.put x v) d st := by
 cases st with
 | none => rfl
 | some g => exact (Act.put_comm a _ _ (fun e h1 h2 => h (by rw [h1]; exact h2.symm ▸ rfl))).symm
theorem AnyF.pure {fuel : Nat} {listed : Array Bool} {a : Act} {R : World → Prop} (i : Nat) {oi : Oper} {v : Value} (hi : ops[i]? = some oi) (hij : i ≠ j) (hd : ∀ g, takeB md ops (fSet listed j g) k i = true)
   (hQ : ∀ c a w, Q (.panic c) (a.put oi.dst v) w → Q (.panic c) a w) (hg : oi.guard = none) (hod : oi.dst ≠ some d) (hy : ∀ st w, (execOp (fAct a d st).eval oi).run P w = .ok (.value v) w) (hT : ∀ W, R W → T W)
   (h : AnyF P md ops Q k T j d B ty Z fuel (listed.setIfInBounds i true) (a.put oi.dst v) R) : AnyF P md ops Q k T j d B ty Z (fuel + 1) listed a R := by
 intro st W hR hF
 have e : fFuel (fuel + 1) st = fFuel fuel st + 1 := by cases st <;> rfl
 rw [e]
 refine AnyK.pure i hi (hd st) hQ hg (hy st) (fun _ => hT W hR) ?_
 rw [fSet_comm _ _ _ hij, fAct_comm _ _ _ _ hod]
 exact h st W hR hF
theorem AnyF.load {fuel : Nat} {listed : Array Bool} {a : Act} {R : World → Prop} (i : Nat) {oi : Oper} {v : Value} (hi : ops[i]? = some oi) (hij : i ≠ j) (hd : ∀ g, takeB md ops (fSet listed j g) k i = true) (hk : awaits md ops k i = true) (hl : ∀ g, (fSet listed j g).getD k true = false)
   (hQ : ∀ c a w, Q (.panic c) (a.put oi.dst v) w → Q (.panic c) a w) (hg : oi.guard = none) (hod : oi.dst ≠ some d) (hy : ∀ st w, T w → (execOp (fAct a d st).eval oi).run P w = .ok (.value v) w) (hT : ∀ W, R W → T W)
   (h : AnyF P md ops Q k T j d B ty Z fuel (listed.setIfInBounds i true) (a.put oi.dst v) R) : AnyF P md ops Q k T j d B ty Z (fuel + 1) listed a R := by
 intro st W hR hF
 have e : fFuel (fuel + 1) st = fFuel fuel st + 1 := by cases st <;> rfl
 rw [e]
 refine AnyK.load i hi (hd st) hk (hl st) hQ hg (hy st) (hT W hR) ?_
 rw [fSet_comm _ _ _ hij, fAct_comm _ _ _ _ hod]
 exact h st W hR hF
theorem AnyF.call {fuel : Nat} {listed : Array Bool} {a : Act} {R : World → Prop} (i : Nat) {d1 : Tmp} {f : FuncId} {args : Array Value} {oi oj : Oper} {X : Type} (v : X → Value) (R' : X → World → Prop)
   (hi : ops[i]? = some oi) (hid : oi.dst = some d1) (hig : oi.guard = none) (hij : i ≠ j) (hdd : some d1 ≠ some d) (hirun : ∀ st w, (execOp (fAct a d st).eval oi).run P w = .ok (.enter f args) w)
   (hj : ops[j]? = some oj) (hjd : oj.dst = some d) (hjg : oj.guard = none) (hjrun : ∀ (b : Act) w, (execOp b.eval oj).run P w = .ok (.value (.pointer (some ⟨w.heap.size, 0, none⟩))) (w.alloc (.cells Z.toArray ty)))
   (hr0 : Region.ready md ops listed = [i, j] ∨ Region.ready md ops listed = [j, i]) (hr1 : Region.ready md ops (listed.setIfInBounds j true) = [i])
   (hRa : ∀ W o, R W → R (W.alloc o)) (hRB : ∀ W, R W → B ≤ W.heap.size) (hT : ∀ W, R W → T W) (hT' : ∀ x W, R' x W → T W)
   (hcall : ∀ W, R W → Calls P f args W fun e w' => ∃ x, e = .returned (v x) ∧ R' x w' ∧ Below W.heap.size W w')
   (h : ∀ x, AnyF P md ops Q k T j d B ty Z fuel (listed.setIfInBounds i true) (a.put (some d1) (v x)) (R' x)) : AnyF P md ops Q k T j d B ty Z (fuel + 1) listed a R := by
 have some_ : ∀ g W, R W → B ≤ g → Blk W g ty Z → AnyK P md ops Q k T (fuel + 1) (listed.setIfInBounds j true) (a.put (some d) (.pointer (some ⟨g, 0, none⟩))) W := fun g W hR hg hb => by
   refine AnyK.one i hi hr1 hig ?_
   unfold Oper.wp
   rw [show (execOp (a.put (some d) (.pointer (some ⟨g, 0, none⟩))).eval oi).run P W = _ from hirun (some g) W]
   refine Calls.mono (hcall W hR) ?_
   rintro e w' ⟨x, rfl, hR', hB⟩
   refine ⟨fun _ => hT' x w' hR', ?_⟩
   rw [hid]
   have h2 := h x (some g) w' hR' ⟨hg, hb.below hB hb.lt⟩
   rw [← fSet_comm _ _ _ hij, ← fAct_comm _ _ _ _ hdd] at h2
   exact h2
 intro st W hR hF
 cases st with
 | some g => exact some_ g W hR hF.1 hF.2
 | none =>
   have b1 : oi.wp P a W (fun a' w' => ((listed.setIfInBounds i true).getD k true = false → T w') ∧ AnyK P md ops Q k T (fuel + 1) (listed.setIfInBounds i true) a' w') Q := by
     unfold Oper.wp
     rw [show (execOp a.eval oi).run P W = _ from hirun none W]
     refine Calls.mono (hcall W hR) ?_
     rintro e w' ⟨x, rfl, hR', hB⟩
     refine ⟨fun _ => hT' x w' hR', ?_⟩
     rw [hid]
     exact h x none w' hR' trivial
   have b2 : oj.wp P a W (fun a' w' => ((listed.setIfInBounds j true).getD k true = false → T w') ∧ AnyK P md ops Q k T (fuel + 1) (listed.setIfInBounds j true) a' w') Q := by
     unfold Oper.wp
     rw [hjrun]
     rw [Oper.upon_value, hjd]
     exact ⟨fun _ => hT _ (hRa _ _ hR), some_ _ _ (hRa _ _ hR) (hRB _ hR) (Blk.new _ _ _)⟩
   rcases hr0 with hr0 | hr0
   · exact AnyK.fork i j hi hj hr0 hig hjg b1 b2
   · exact AnyK.fork j i hj hi hr0 hjg hig b2 b1
theorem AnyF.fin {fuel : Nat} {listed : Array Bool} {a : Act} {R : World → Prop} {oj : Oper}
   (hj : ops[j]? = some oj) (hjd : oj.dst = some d) (hjg : oj.guard = none) (hjrun : ∀ (b : Act) w, (execOp b.eval oj).run P w = .ok (.value (.pointer (some ⟨w.heap.size, 0, none⟩))) (w.alloc (.cells Z.toArray ty)))
   (hr0 : Region.ready md ops listed = [j]) (hRa : ∀ W o, R W → R (W.alloc o)) (hRB : ∀ W, R W → B ≤ W.heap.size) (hT : ∀ W, R W → T W)
   (h : ∀ g W, B ≤ g → Blk W g ty Z → R W → AnyK P md ops Q k T fuel (listed.setIfInBounds j true) (a.put (some d) (.pointer (some ⟨g, 0, none⟩))) W) : AnyF P md ops Q k T j d B ty Z fuel listed a R := by
 intro st W hR hF
 cases st with
 | some g => exact h g W hF.1 hF.2 hR
 | none =>
   refine AnyK.one j hj hr0 hjg ?_
   unfold Oper.wp
   rw [hjrun, Oper.upon_value, hjd]
   exact ⟨fun _ => hT _ (hRa _ _ hR), h _ _ (hRB _ hR) (Blk.new _ _ _) (hRa _ _ hR)⟩
theorem AnyK.storeAll {fuel : Nat} {listed : Array Bool} {a : Act} {w : World} (i : Nat) {oi : Oper} {t : TypeId} {x y : Operand} (g : Nat) (cs : List Value) (t' : TypeId) (Z : List Value) (hi : ops[i]? = some oi) (hid : oi.dst = none) (hg : oi.guard = none) (ho : oi.op = .store t x y) (hr : Region.ready md ops listed = [i])
   (hx : a.eval x = .pointer (some ⟨g, 0, none⟩)) (hy : a.eval y = .agg cs.toArray) (hb : Blk w g t' Z) (hsz : (P.info? t).map (·.size) = some cs.length) (hone : ∀ v ∈ cs, v.oneCell' = true) (hlen : cs.length = Z.length)
   (hT : ∀ w', Blk w' g t' cs → Only w w' g → (listed.setIfInBounds i true).getD k true = false → T w')
   (h : ∀ w', Blk w' g t' cs → Only w w' g → AnyK P md ops Q k T fuel (listed.setIfInBounds i true) (a.put none undef) w') : AnyK P md ops Q k T (fuel + 1) listed a w := by
 refine AnyK.one i hi hr hg ?_
 refine wp_store t x y ho g 0 cs hx hy t' Z hb hsz hone (by omega) ?_
 intro w' hb' ho'
 rw [splice_whole _ _ hlen] at hb'
 rw [hid]
 exact ⟨hT w' hb' ho', h w' hb' ho'⟩
end
section
variable {P : Program} {w : World} {o : Oper} {a : Act}
end
section
variable {P : Program} {ops : Array Oper} {Q : Exit → Act → World → Prop} {md : Region.Mode} {T : World → Prop} {k : Nat}
theorem AnyK.pu {fuel : Nat} {listed : Array Bool} {a : Act} {w : World} (i : Nat) {oi : Oper} {v : Value} (hT : listed.getD k true = false → T w)
   (h : AnyK P md ops Q k T fuel (listed.setIfInBounds i true) (a.put oi.dst v) w) (hi : ops[i]? = some oi := by rfl) (hd : takeB md ops listed k i = true := by kernel_rfl)
   (hQ : ∀ c a w, Q (.panic c) (a.put oi.dst v) w → Q (.panic c) a w := by exact fun _ _ _ h => h) (hg : oi.guard = none := by rfl) (hy : ∀ w, (execOp a.eval oi).run P w = .ok (.value v) w := by exact fun _ => by kernel_rfl) : AnyK P md ops Q k T (fuel + 1) listed a w := AnyK.pure i hi hd hQ hg hy hT h
theorem AnyK.lo {fuel : Nat} {listed : Array Bool} {a : Act} {w : World} (i : Nat) {oi : Oper} {v : Value} (hi : ops[i]? = some oi) (hy : ∀ w, T w → (execOp a.eval oi).run P w = .ok (.value v) w) (hT : T w)
   (h : AnyK P md ops Q k T fuel (listed.setIfInBounds i true) (a.put oi.dst v) w) (hd : takeB md ops listed k i = true := by kernel_rfl) (hk : awaits md ops k i = true := by kernel_rfl) (hl : listed.getD k true = false := by kernel_rfl)
   (hQ : ∀ c a w, Q (.panic c) (a.put oi.dst v) w → Q (.panic c) a w := by exact fun _ _ _ h => h) (hg : oi.guard = none := by rfl) : AnyK P md ops Q k T (fuel + 1) listed a w := AnyK.load i hi hd hk hl hQ hg hy hT h
end
end Go.Proofs.YtpgpaenloaphaaaGreat
namespace Go.Proofs.YtpgpaenloaphaaaGreat
open Go.RowKit
theorem u8_size1 : (Tryz.prog.info? 5).map (·.size) = some 1 := by kernel_rfl
theorem hd34 : (Tryz.prog.info? 32).map (·.size) = some 288 := by kernel_rfl
theorem zc34 : Tryz.zeroCells32 = (List.replicate 288 (.int .u8 0)).toArray := by kernel_rfl
set_option maxRecDepth 100000 in
set_option maxHeartbeats 400000 in
theorem hparse_yes (A : Option Addr) (c : Nat) (l : List UInt8) (w : World) (h : Rd w A 288 (u8s l)) (hc : 288 ≤ c) :
   Calls Tryz.prog 21 #[.slice A 288 c] w fun e w' => e = .returned (.tuple #[.agg (u8s l).toArray, .int .i64 0]) ∧ Below w.heap.size w w' := by
 have hl := h.len
 obtain ⟨b, off, rfl, hb, hcell⟩ := h.2 (by omega)
 obtain ⟨Z, hZ⟩ : ∃ Z : List Value, Tryz.zeroCells32 = Z.toArray := ⟨_, zc34⟩
 have hZl : Z.length = 288 := by have := Tryz.zeroCells32_size; rw [hZ] at this; simpa using this
 have HZ := qh hZ
 have HZl := qh hZl
 have Hl := qh hl
 have Hc := qh hcell
 clear hZ hZl hl hcell
 go_enter Tryz.func21, Tryz.ntmps21
 go_wp2_with (refine wpList_copy rfl (.tmp 10) (.tmp 11) 22 rfl 5 Tryz.underlying22 u8_size1 (w.heap.size + 1) 0 32 32 (by rfl) (some ⟨b, off, none⟩) 288 c (by rfl) 32 Z ?c1 (u8s l) ?c2 (u8s_one _) ?c3 ?_)
 case c1 => exact Blk.new' (by simp) HZ.out
 case c2 => exact (h.alloc _).alloc _
 case c3 => rw [HZl.out]; omega
 intro w1 hb1 ho1
 have hB1 : Below w.heap.size w w1 := ho1.below (((Below.refl _ _).alloc (Nat.le_refl _) _).alloc (by simp) _) (by simp) (by simp; omega)
 have hz1 : Blk w1 w.heap.size 32 Z := ho1.blk ((Blk.new' rfl HZ.out).alloc _) (by omega)
 have hr1 : Rd w1 (some ⟨b, off, none⟩) 288 (u8s l) := h.below hB1
 have hlen : ∀ cs o (xs : List Value) n, o + n ≤ 288 → cs.length = 288 → (splice cs o (xs.take n)).length = 288 := fun cs o xs n hn hc => by rw [length_splice _ _ _ (by simp; omega)]; exact hc
 have HL := qh hlen
 have hcut : ∀ W k m, Rd W (some ⟨b, off, none⟩) 288 (u8s l) → k + m = 288 → 0 < m → Rd W (some ⟨b, off + k, none⟩) m (u8s (l.drop k)) := fun W k m h hkm hm => by
   have := h.cut (A' := some ⟨b, off + k, none⟩) (m := 288) (k := k) (Nat.le_refl _) (by omega) (fun _ b' off' e => by injection e with e; injection e with e1 e2; subst e1; subst e2; rfl)
   rw [List.take_of_length_le (by rw [u8s_length, Hl.out]; exact Nat.le_refl _), u8s_drop, show 288 - k = m from by omega] at this
   exact this
 have HC := qh hcut
 clear ho1 hlen hcut
 go_wp2
 have n32 : ¬ c = 32 := by omega
 have n48 : ¬ c = 48 := by omega
 have hl1 : 32 + 16 ≤ (splice Z 0 (List.take 32 (u8s l))).length := by rw [HL.out _ _ _ _ (by omega) HZl.out]; omega
 go_region_held3 (fun _ => True) (trivial) ((refine step_copy rfl (.tmp 14) (.tmp 16) 22 rfl 5 Tryz.underlying22 u8_size1 (w.heap.size + 1) 32 16 16 (by rfl) (some ⟨b, off + 32, none⟩) 256 (c - 32) (by rfl) 32 _ (by exact hb1) (u8s (l.drop 32)) (HC.out _ 32 256 hr1.drew rfl (by omega)) (u8s_one _) hl1 ?_; intro w2 hb2 ho2))
 have hB2 : Below w.heap.size w w2 := ho2.below hB1.drew (by omega) hB1.size
 have hz2 : Blk w2 w.heap.size 32 Z := ho2.blk hz1.drew (by omega)
 have hr2 : Rd w2 (some ⟨b, off, none⟩) 288 (u8s l) := h.below hB2
 have hl2 : 48 + 240 ≤ (splice (splice Z 0 (List.take 32 (u8s l))) 32 (List.take 16 (u8s (l.drop 32)))).length := by rw [HL.out _ _ _ _ (by omega) (HL.out _ _ _ _ (by omega) HZl.out)]; omega
 clear ho2 hl1 hB1 hz1 hr1 hb1
 go_wp2
 go_region_held3 (fun _ => True) (trivial) ((refine step_copy rfl (.tmp 19) (.tmp 21) 22 rfl 5 Tryz.underlying22 u8_size1 (w.heap.size + 1) 48 240 240 (by rfl) (some ⟨b, off + 48, none⟩) 240 (c - 48) (by rfl) 32 _ (by exact hb2) (u8s (l.drop 48)) (HC.out _ 48 240 hr2.drew rfl (by omega)) (u8s_one _) hl2 ?_; intro w3 hb3 ho3))
 have hB3 : Below w.heap.size w w3 := ho3.below hB2.drew (by omega) hB2.size
 have hz3 : Blk w3 w.heap.size 32 Z := ho3.blk hz2.drew (by omega)
 have HF : splice (splice (splice Z 0 (List.take 32 (u8s l))) 32 (List.take 16 (u8s (l.drop 32)))) 48 (List.take 240 (u8s (l.drop 48))) = u8s l := by
   have hZ := HZl.out
   have hl := Hl.out
   rw [splice_splice_splice Z _ _ _ 32 16 (by simp [u8s_length]; omega) (by simp [u8s_length]; omega) (by simp [u8s_length]; omega), u8s_take, u8s_take, u8s_take, ← u8s_append, ← u8s_append]
   congr 1
   rw [List.take_of_length_le (l := l.drop 48) (by simp; omega), show l.drop 48 = (l.drop 32).drop 16 from by simp, List.take_append_drop, List.take_append_drop]
 rw [HF] at hb3
 have hi34 : (Tryz.prog.info? 32).map (·.size) = some (u8s l).length := by rw [u8s_length, Hl.out]; exact hd34
 have hz34 : 0 + (u8s l).length ≤ Z.length := by rw [u8s_length, Hl.out, HZl.out]; omega
 have H34 := qh hi34
 clear ho3 hB2 hz2 hr2 hb2 HF hl2 hi34
 go_wp2_with (first
   | refine wpList_load_mid rfl 32 (.tmp 4) rfl (w.heap.size + 1) 0 (by rfl) (u8s l) _ hb3.range Tryz.underlying32 rfl H34.out ?_
   | (refine wpList_store rfl 32 (.tmp 2) (.tmp 23) rfl w.heap.size 0 (u8s l) (by rfl) (by rfl) 32 Z hz3 H34.out (u8s_one _) hz34 ?_; intro w4 hb4 ho4))
 have hB4 : Below w.heap.size w w4 := ho4.below hB3 (Nat.le_refl _) hB3.size
 rw [show splice Z 0 (u8s l) = u8s l from by unfold splice; rw [List.drop_eq_nil_of_le (by rw [HZl.out, u8s_length, Hl.out]; omega)]; simp] at hb4
 exact bodyPost_ret (res_cell_tmp rfl _ _ _ _ rfl hb4 _ Tryz.underlying32 rfl H34.out) rfl ⟨rfl, hB4⟩
theorem build34_0 (w : World) : (Instr.build 32 #[]).run Tryz.prog w = .ok (.agg Tryz.zeroCells32) w := by kernel_rfl
end Go.Proofs.YtpgpaenloaphaaaGreat
/- Header.Bytes: the 288 bytes of a header. -/
namespace Go.Proofs.YtpgpaenloaphaaaGreat
open Go.RowKit
set_option maxRecDepth 100000 in
set_option maxHeartbeats 400000 in
theorem hbytes_any (l : List UInt8) (w : World) (hl : l.length = 288) :
   Calls Tryz.prog 15 #[.agg (u8s l).toArray] w fun e w' => ∃ A' c', e = .returned (.slice A' 288 c') ∧ 288 ≤ c' ∧ w'.ownsRow w.heap.size 5 1 (.slice A' 288 c') 288 (u8s l) ∧ Below w.heap.size w w' := by
 have Hl := qh hl
 clear hl
 go_enter Tryz.func15, Tryz.ntmps15
 have hq : ∀ W, Blk W w.heap.size 32 (u8s l) → Blk W (w.heap.size + 1) 22 [.slice (some ⟨w.heap.size, 0, none⟩) 32 32, .slice (some ⟨w.heap.size, 32, none⟩) 16 16, .slice (some ⟨w.heap.size, 48, none⟩) 240 240] →
     RdB W (some ⟨w.heap.size + 1, 0, none⟩) 3 [l.take 32, (l.drop 32).take 16, (l.drop 48).take 240] := fun W h1 h2 =>
   RdB.of_blk h2 ⟨.of_blk h1 0 32 32 _ (by rw [u8s_length, Hl.out]; omega) (by omega) (by rw [u8s_drop, u8s_take]; rfl), .of_blk h1 32 16 16 _ (by rw [u8s_length, Hl.out]; omega) (by omega) (by rw [u8s_drop, u8s_take]),
     .of_blk h1 48 240 240 _ (by rw [u8s_length, Hl.out]; omega) (by omega) (by rw [u8s_drop, u8s_take]), trivial⟩
 have hfl : [l.take 32, (l.drop 32).take 16, (l.drop 48).take 240].flatten = l := by
   have hl := Hl.out
   simp
   rw [List.take_of_length_le (l := l.drop 48) (by simp; omega), show l.drop 48 = (l.drop 32).drop 16 from by simp, List.take_append_drop, List.take_append_drop]
 have HQ := qh hq
 have HFL := qh hfl
 clear hq hfl
 go_wp2_with fail
 go_region_held3 (fun _ => True) (trivial) ((go_at_call 42; refine (join_to _ 3 3 _ _ (HQ.out _ (by exact ((Blk.new w _ _).alloc _).drew) (by exact (Blk.new' (by simp) rfl).drew)) (by omega) l 288 HFL.out Hl.out (by omega)).mono ?_; rintro e w1 ⟨A1, c1, rfl, hc1, hown1, hB1⟩))
 have hB2 : Below w.heap.size w w1 := ((((Below.refl _ _).alloc (Nat.le_refl _) _).alloc (by simp) _).drew).trans (hB1.mono (by simp; omega))
 have hown2 := own_mono hown1 (base' := w.heap.size) (by simp; omega)
 clear hown1 hB1
 go_wp2
 go_ret
 exact ⟨A1, c1, rfl, hc1, hown2, hB2⟩
end Go.Proofs.YtpgpaenloaphaaaGreat
/- Packets: their cells; Packet.Bytes. (For a seat without packet.Parse.) -/
namespace Go.Proofs.YtpgpaenloaphaaaGreat
open Go.RowKit
theorem hd76 : (Tryz.prog.info? 35).map (·.size) = some 768 := by kernel_rfl
theorem zc76 : Tryz.zeroCells35 = (u8s (List.replicate 768 0)).toArray := by kernel_rfl
theorem zc34' : Tryz.zeroCells32 = (u8s (List.replicate 288 0)).toArray := by kernel_rfl
def places76 : Array (Nat × Nat) := #[(0, 288), (288, 480)]
theorem pl76 (fields : Array Field) (h : Tryz.prog.underlying 35 = some (.struct fields)) (w : World) : (fields.mapM (fun f => do pure (f.offset, ← sizeOf f.type)) : Sem (Array (Nat × Nat))).run Tryz.prog w = .ok places76 w := by
 rw [Tryz.underlying35] at h
 injection h with h
 injection h with h
 subst h
 kernel_rfl
theorem ldq_34 (v : Value) : Instr.loadAt 32 v = ldAt 32 v := rfl
attribute [local go_sem ↓] ldq_34
set_option maxRecDepth 100000 in
set_option maxHeartbeats 400000 in
theorem pbytes_any (l : List UInt8) (w : World) (hl : l.length = 768) :
   Calls Tryz.prog 14 #[.agg (u8s l).toArray] w fun e w' => ∃ A' c', e = .returned (.slice A' 768 c') ∧ 768 ≤ c' ∧ w'.ownsRow w.heap.size 5 1 (.slice A' 768 c') 768 (u8s l) ∧ Below w.heap.size w w' := by
 have Hl := qh hl
 clear hl
 have hh : (l.take 288).length = 288 := by rw [List.length_take, Hl.out]; rfl
 have HH := qh hh
 have hi34 : (Tryz.prog.info? 32).map (·.size) = some (u8s (l.take 288)).length := by rw [u8s_length, hh]; exact hd34
 have H34 := qh hi34
 clear hh hi34
 obtain ⟨cs, Hcs⟩ : ∃ cs, Hid (cs = u8s (l.take 288)) := ⟨_, rfl⟩
 have hld : ∀ W, Blk W w.heap.size 35 (u8s l) → (ldAt 32 (.pointer (some ⟨w.heap.size, 0, none⟩))).run Tryz.prog W = .ok (.agg cs.toArray) W := fun W hb =>
   ldAt_run hb _ 0 cs (by rw [Hcs.out, List.drop_zero, u8s_take, u8s_length, HH.out]) _ Tryz.underlying32 rfl (by rw [Hcs.out]; exact H34.out)
 have hq : ∀ W A1 c1, 288 ≤ c1 → Blk W w.heap.size 35 (u8s l) → Rd W A1 288 (u8s (l.take 288)) → Rd W (some ⟨0, 0, none⟩) 0 [] := fun W _ _ _ _ _ => Rd.nil _ _
 have hfl : [l.take 288, (l.drop 288).take 480].flatten = l := by
   have hl := Hl.out
   simp
   rw [List.take_of_length_le (l := l.drop 288) (by simp; omega), List.take_append_drop]
 have HFL := qh hfl
 clear hfl hq
 go_enter Tryz.func14, Tryz.ntmps14
 go_wp2_with fail
 have hk0 : Blk (w.alloc (.cells (u8s l).toArray 35)).drew w.heap.size 35 (u8s l) := (Blk.new w _ _).drew
 have hq : ∀ (w1 : World) A1 c1, 288 ≤ c1 → Blk w1 w.heap.size 35 (u8s l) → Rd w1 A1 288 (u8s (l.take 288)) →
     RdB (w1.alloc (.cells #[.slice A1 288 c1, .slice (some ⟨w.heap.size, 288, none⟩) 480 480] 22)) (some ⟨w1.heap.size, 0, none⟩) 2 [l.take 288, (l.drop 288).take 480] := fun w1 A1 c1 hc1 hk1 hr1 =>
   RdB.of_blk (Blk.new w1 22 [.slice A1 288 c1, .slice (some ⟨w.heap.size, 288, none⟩) 480 480]) ⟨.of_rd (hr1.alloc _) hc1, .of_blk (hk1.alloc _) 288 480 480 _ (by rw [u8s_length, Hl.out]; omega) (by omega) (by rw [u8s_drop, u8s_take]), trivial⟩
 have HQ := qh hq
 clear hq
 go_region_held3 (fun w' => Blk w' w.heap.size 35 (u8s l)) (first | assumption | exact Blk.alloc (by assumption) _) (first
   | (go_at_call 15; rw [Hcs.out]; refine (hbytes_any (l.take 288) _ HH.out).mono ?_; rintro e w1 ⟨A1, c1, rfl, hc1, hown1, hB1⟩; have hk1 : Blk w1 w.heap.size 35 (u8s l) := hk0.below hB1 (by simp))
   | (go_at_call 42; refine (join_to _ 2 2 _ _ (HQ.out w1 A1 c1 hc1 hk1 (Rd.of_own hown1)) (by omega) l 768 HFL.out Hl.out (by omega)).mono ?_; rintro e w2 ⟨A2, c2, rfl, hc2, hown2, hB2⟩
      have hs1 : w.heap.size < w1.heap.size := hk1.lt
      have hk2 : Blk w2 w.heap.size 35 (u8s l) := (hk1.alloc _).below hB2 (by simp; omega)))
 have hB3 : Below w.heap.size w w2 := ((((Below.refl _ _).alloc (Nat.le_refl _) _).drew).trans (hB1.mono (by simp))).trans ((((Below.refl _ _).alloc (by omega) _)).trans (hB2.mono (by simp; omega)))
 have hown3 := own_mono hown2 (base' := w.heap.size) (by simp; omega)
 clear hown2 hB2 hown1 hB1 hk1 hk2 hk0 hld HQ
 go_wp2
 go_ret
 exact ⟨A2, c2, rfl, hc2, hown3, hB3⟩
end Go.Proofs.YtpgpaenloaphaaaGreat
namespace Go.Proofs.YtpgpaenloaphaaaGreat
open Go.RowKit
def i64 (n : Int) : Value := .int .i64 n
def i64s (l : List Int) : List Value := l.map i64
theorem i64s_length (l : List Int) : (i64s l).length = l.length := by simp [i64s]
theorem Rd.i64 {w : World} {A : Option Addr} {n : Nat} {l : List Int} (h : Rd w A n (i64s l)) {k : Nat} (hk : k < n) :
   ∃ b off x, A = some ⟨b, off, none⟩ ∧ b < w.heap.size ∧ Hid (l[k]? = some x) ∧ w.cell? ⟨b, off + k, none⟩ = some (.int .i64 x) := by
 obtain ⟨b, off, e, hb, hc⟩ := h.2 (by omega)
 have hl : k < l.length := by have := h.1; rw [i64s_length] at this; omega
 exact ⟨b, off, l[k], e, hb, List.getElem?_eq_getElem hl, hc k _ (by simp [i64s, List.getElem?_eq_getElem hl, Proofs.YtpgpaenloaphaaaGreat.i64])⟩
def least1 (m e : Int) : Int := if e ≠ 0 ∧ (m = 0 ∨ e < m) then e else m
def leastOf (l : List Int) : Int := l.foldl least1 0
theorem leastOf_snoc (l : List Int) (k : Nat) (x : Int) (h : l[k]? = some x) : leastOf (l.take (k + 1)) = least1 (leastOf (l.take k)) x := by
 rw [List.take_add_one, h]; simp [leastOf]
set_option maxHeartbeats 400000 in
theorem least_any (A : Option Addr) (n c : Nat) (l : List Int) (w : World) (h : Rd w A n (i64s l)) (hn : n ≤ 140737488355328) :
   Calls Tryz.prog 41 #[.slice A n c] w fun e w' => e = .returned (.int .i64 (leastOf l)) ∧ w = w' := by
 have hl : l.length = n := by rw [← i64s_length]; exact h.1
 have HL := qh hl
 clear hl
 go_enter Tryz.func41, Tryz.ntmps41
 go_wp2
 go_loop [3, 8] (fun m i => ∃ k : Nat, k ≤ n ∧ i = .int .i64 k ∧ m = .int .i64 (leastOf (l.take k))) (fun _ i => n - (intOf i).toNat)
 case atStart => exact ⟨0, Nat.zero_le _, rfl, rfl⟩
 case round =>
   obtain ⟨k, hk, rfl, rfl⟩ := hrel
   by_cases hlt : k < n
   · obtain ⟨b, off, x, rfl, hb, HX, hc⟩ := h.i64 hlt
     have hs := leastOf_snoc l k x HX.out
     generalize leastOf (l.take k) = m at *
     have HS := qh hs
     clear hs
     go_wp2
     all_goals
       go_round
       case rel => exact ⟨k + 1, by omega, by go_num, by rw [HS.out]; first | (simp_all [least1]; done) | (simp_all [least1]; omega)⟩
       case measure => simp [intOf]; omega
   · have : k = n := by omega
     subst this
     go_wp2
     go_ret
     rw [List.take_of_length_le (by rw [HL.out]; omega)]
     exact ⟨rfl, rfl⟩
end Go.Proofs.YtpgpaenloaphaaaGreat
namespace Go.Proofs.YtpgpaenloaphaaaGreat
open Go.RowKit
section
variable {P : Program}
theorem eqItems_bytes (d : Nat) (e : TypeId) (he : P.plainKey e = true) (hu : P.underlying e = some (.int .u8)) (a b : List UInt8) (hl : a.length = b.length) (w : World) :
   ∀ (k i : Nat), i + k = a.length → (Op.eqItems (d + 1) e 1 (u8s a).toArray (u8s b).toArray (List.range' i k)).run P w = .ok (decide (a.drop i = b.drop i)) w := by
 intro k
 induction k with
 | zero =>
   intro i hi
   rw [List.drop_eq_nil_of_le (by omega), List.drop_eq_nil_of_le (by omega)]
   simp [Op.eqItems]
 | succ k ih =>
   intro i hi
   have hia : i < a.length := by omega
   have hib : i < b.length := by omega
   have ha : (u8s a).toArray[i * 1]? = some (.int .u8 (a[i].toNat : Int)) := by
     rw [Nat.mul_one, List.getElem?_toArray, u8s_getElem?, List.getElem?_eq_getElem hia]
     rfl
   have hb : (u8s b).toArray[i * 1]? = some (.int .u8 (b[i].toNat : Int)) := by
     rw [Nat.mul_one, List.getElem?_toArray, u8s_getElem?, List.getElem?_eq_getElem hib]
     rfl
   have e1 : a.drop i = a[i] :: a.drop (i + 1) := List.drop_eq_getElem_cons hia
   have e2 : b.drop i = b[i] :: b.drop (i + 1) := List.drop_eq_getElem_cons hib
   rw [e1, e2, List.range'_succ]
   simp only [Op.eqItems, Sem.run_bind, run_part_plain w he ha, run_part_plain w he hb, Result.andThen_ok, run_equalIn_int w d e .u8 .u8 _ _ hu]
   by_cases hx : a[i] = b[i]
   · rw [hx]
     simp only [beq_self_eq_true, Bool.not_true, Bool.false_eq_true, if_false]
     rw [ih (i + 1) (by omega)]
     have h2 : (a.drop (i + 1) = b.drop (i + 1)) ↔ (b[i] :: a.drop (i + 1) = b[i] :: b.drop (i + 1)) := by simp only [List.cons.injEq, true_and]
     exact congrArg (fun x => Result.ok x w) (decide_eq_decide.2 h2)
   · have : (((a[i].toNat : Int)) == ((b[i].toNat : Int))) = false := by
       rw [beq_eq_false_iff_ne]
       intro h
       exact hx (UInt8.toNat_inj.1 (by omega))
     rw [this, decide_eq_false (fun h => hx (List.cons.inj h).1)]
     simp
theorem eq_bytes {t e : TypeId} {n : Nat} {i : TypeInfo} (hu : P.underlying t = some (.array n e)) (hi : P.info? e = some i) (hc : P.cellsOf e = 1) (he : P.plainKey e = true) (hue : P.underlying e = some (.int .u8)) (a b : List UInt8) (ha : a.length = n) (hb : b.length = n) (w : World) :
   (eqAt t (.agg (u8s a).toArray) (.agg (u8s b).toArray)).run P w = .ok (.bool (decide (a = b))) w := by
 unfold eqAt
 rw [run_eql_struct, run_equalIn_array w 9999 _ _ hu hi, hc, List.range_eq_range', ← ha, eqItems_bytes 9998 e he hue a b (by omega) w a.length 0 (by omega)]
 simp
end
theorem eq16 (a b : List UInt8) (ha : a.length = 16) (hb : b.length = 16) (w : World) : (eqAt 29 (.agg (u8s a).toArray) (.agg (u8s b).toArray)).run Tryz.prog w = .ok (.bool (decide (a = b))) w := by
 obtain ⟨i, hi⟩ : ∃ i, Tryz.prog.info? 5 = some i := by
   have h : (Tryz.prog.info? 5).isSome = true := by kernel_rfl
   exact Option.isSome_iff_exists.1 h
 exact eq_bytes Tryz.underlying29 hi (by kernel_rfl) (by kernel_rfl) Tryz.underlying5 a b ha hb w
end Go.Proofs.YtpgpaenloaphaaaGreat
namespace Go.Proofs.YtpgpaenloaphaaaGreat
open Go.RowKit
section
variable {P : Program} {w : World} {o : Oper} {a : Act}
theorem ey_load {t : TypeId} {x : Operand} {p : Addr} {v : Value} (ho : o.op = .load t x) (hx : a.eval x = .pointer (some p)) (hn : ∀ w, (isAgg t).run P w = .ok false w) (hc : w.cell? p = some v) : (execOp a.eval o).run P w = .ok (.value v) w := by
 unfold execOp
 simp [ho, hx, Instr.loadAt, Instr.sureAddr, loadVar, hn, hc]
theorem ey_store {t : TypeId} {x y : Operand} {p : Addr} {u : Value} {k : IntKind} {n : Int} (ho : o.op = .store t x y) (hx : a.eval x = .pointer (some p)) (hy : a.eval y = .int k n) (hz : ∀ w, (sizeOf t).run P w = .ok 1 w) (hc : w.cell? p = some u) (hf : w.frozen? p = false) : (execOp a.eval o).run P w = .ok .skip (w.setCell p (.int k n)) := by
 unfold execOp
 simp [ho, hx, hy, Instr.storeAt, Instr.sureAddr, storeVar, hz, Value.cells, storeCells, store, Addr.add, Sem.run, hc, hf]
theorem ey_idxA {t e : TypeId} {x y : Operand} {g off m p : Nat} (ho : o.op = .indexAddr t x y) (hx : a.eval x = .pointer (some ⟨g, off, none⟩)) (hy : a.eval y = .int .i64 (p : Int)) (hp : p < m) (hu : P.underlying t = some (.array m e)) (hz : ∀ w, (sizeOf e).run P w = .ok 1 w) : (execOp a.eval o).run P w = .ok (.value (.pointer (some ⟨g, off + p, none⟩))) w := by
 unfold execOp
 simp [ho, hx, hy, Instr.indexAt, asIntOf, run_underlying hu, hz, hp, Addr.add, Instr.sureAddr]
theorem ey_loadR {t : TypeId} {x : Operand} {p v : Value} (ho : o.op = .load t x) (hx : a.eval x = p) (hr : (Instr.loadAt t p).run P w = .ok v w) : (execOp a.eval o).run P w = .ok (.value v) w := by
 unfold execOp
 simp [ho, hx, hr]
end
end Go.Proofs.YtpgpaenloaphaaaGreat
