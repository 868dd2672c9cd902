/- Part of the proof: Base, Codec, Get. -/
import Derived.Test.YtpgpaenloaphaaaGreatChecked
import Derived.WalkKit
import Derived.WalkSpells
import Derived.WalkLawsBesides
import Derived.BigQuiet
import Derived.Deep.QuietTactic
import Derived.Lib.Hide
import Derived.Maps.AppendAt
import Derived.Deep.AppendLies
import Derived.Deep.Draws
import Derived.Deep.RegionHeld3
import Derived.Laws.OwnMore
import Derived.Laws.CopyOwn
import Derived.Laws.ResultCell
namespace Go.Proofs.YtpgpaenloaphaaaGreat
open Go.RowKit
theorem qh {p : Prop} (h : p) : Hid p := (Lib.hid) h
def Rd (w : World) (A : Option Addr) (n : Nat) (xs : List Value) : Prop :=
 xs.length = n ∧ (0 < n → ∃ b off, A = some ⟨b, off, none⟩ ∧ b < w.heap.size ∧ ∀ j u, xs[j]? = some u → w.cell? ⟨b, off + j, none⟩ = some u)
def u8 (c : UInt8) : Value := .int .u8 c.toNat
def u8s (l : List UInt8) : List Value := l.map u8
theorem u8s_length (l : List UInt8) : (u8s l).length = l.length := by simp [u8s]
theorem u8s_append (a b : List UInt8) : u8s (a ++ b) = u8s a ++ u8s b := by simp [u8s]
theorem u8s_take (a : List UInt8) (n : Nat) : (u8s a).take n = u8s (a.take n) := by simp [u8s, List.map_take]
theorem u8s_drop (a : List UInt8) (n : Nat) : (u8s a).drop n = u8s (a.drop n) := by simp [u8s, List.map_drop]
theorem u8s_one (l : List UInt8) : ∀ v ∈ u8s l, v.oneCell' = true := by
 intro v hv
 obtain ⟨c, _, rfl⟩ := List.mem_map.1 hv
 rfl
theorem u8s_getElem? (l : List UInt8) (k : Nat) : (u8s l)[k]? = l[k]?.map u8 := by simp [u8s]
theorem Rd.len {w : World} {A : Option Addr} {n : Nat} {l : List UInt8} (h : Rd w A n (u8s l)) : l.length = n := by simpa [u8s_length] using h.1
theorem Rd.at_ {w : World} {A : Option Addr} {n : Nat} {xs : List Value} (h : Rd w A n xs) {k : Nat} (hk : k < n) :
   ∃ b off u, A = some ⟨b, off, none⟩ ∧ b < w.heap.size ∧ Hid (xs[k]? = some u) ∧ w.cell? ⟨b, off + k, none⟩ = some u := by
 obtain ⟨b, off, e, hb, hc⟩ := h.2 (by omega)
 have hl : k < xs.length := by have := h.1; omega
 exact ⟨b, off, _, e, hb, List.getElem?_eq_getElem hl, hc k _ (List.getElem?_eq_getElem hl)⟩
theorem Rd.u8 {w : World} {A : Option Addr} {n : Nat} {l : List UInt8} (h : Rd w A n (u8s l)) {k : Nat} (hk : k < n) :
   ∃ b off x, A = some ⟨b, off, none⟩ ∧ b < w.heap.size ∧ Hid (l[k]? = some x) ∧ w.cell? ⟨b, off + k, none⟩ = some (.int .u8 (x : UInt8).toNat) := by
 obtain ⟨b, off, e, hb, hc⟩ := h.2 (by omega)
 have hl : k < l.length := by have := h.len; omega
 exact ⟨b, off, l[k], e, hb, List.getElem?_eq_getElem hl, hc k _ (by rw [u8s_getElem?, List.getElem?_eq_getElem hl]; rfl)⟩
theorem Rd.keep {w w' : World} {A : Option Addr} {n : Nat} {xs : List Value} (h : Rd w A n xs) (hs : w.heap.size ≤ w'.heap.size) (hk : ∀ p : Addr, p.block < w.heap.size → w'.cell? p = w.cell? p) : Rd w' A n xs :=
 ⟨h.1, fun hn => by
   obtain ⟨b, off, e, hbl, hc⟩ := h.2 hn
   exact ⟨b, off, e, Nat.lt_of_lt_of_le hbl hs, fun j u hu => (hk ⟨b, off + j, none⟩ hbl).trans (hc j u hu)⟩⟩
theorem Rd.below {w w' : World} {A : Option Addr} {n : Nat} {xs : List Value} (h : Rd w A n xs) (hb : Below w.heap.size w w') : Rd w' A n xs :=
 h.keep hb.size fun _ hp => hb.cell hp
theorem Rd.drewN {w : World} {A : Option Addr} {n : Nat} {xs : List Value} (h : Rd w A n xs) (q : Nat) : Rd (w.drewN q) A n xs := h
theorem Rd.drew {w : World} {A : Option Addr} {n : Nat} {xs : List Value} (h : Rd w A n xs) : Rd w.drew A n xs := h
theorem Rd.alloc {w : World} {A : Option Addr} {n : Nat} {xs : List Value} (h : Rd w A n xs) (o : Obj) : Rd (w.alloc o) A n xs :=
 h.keep (by simp) fun p hp => World.cell?_alloc_lt w o p hp
theorem Rd.nil (w : World) (A : Option Addr) : Rd w A 0 [] := ⟨rfl, fun h => absurd h (by omega)⟩
theorem Rd.cut {w : World} {A A' : Option Addr} {n : Nat} {xs : List Value} (h : Rd w A n xs) {k m : Nat} (hm : m ≤ n) (hk : k ≤ m)
   (hA : k < m → ∀ b off, A = some ⟨b, off, none⟩ → A' = some ⟨b, off + k, none⟩) : Rd w A' (m - k) ((xs.take m).drop k) := by
 refine ⟨by have := h.1; simp; omega, fun hn => ?_⟩
 obtain ⟨b, off, e, hb, hc⟩ := h.2 (by omega)
 refine ⟨b, off + k, hA (by omega) b off e, hb, fun j u hu => ?_⟩
 rw [List.getElem?_drop, List.getElem?_take] at hu
 split at hu
 · rw [Nat.add_assoc]; exact hc _ u hu
 · cases hu
theorem Rd.of_own {w : World} {base n c : Nat} {e : TypeId} {A : Option Addr} {xs : List Value} (h : w.ownsRow base e 1 (.slice A n c) n xs) : Rd w A n xs := by
 refine ⟨by simpa using h.1, fun hn => ?_⟩
 rcases h.2 with ⟨_, h0⟩ | ⟨g, cap, cur, hv, _, hg, hnc, _, hcs, htake⟩
 · omega
 · injection hv with hA
   subst hA
   refine ⟨g, 0, rfl, (Array.getElem?_eq_some_iff.1 hg).1, fun j u hu => ?_⟩
   rw [cell_of_row w g (0 + j) cur e (0, 0) hg, Nat.zero_add]
   rw [← htake, List.getElem?_take] at hu
   split at hu
   · simpa using hu
   · cases hu
def Blk (w : World) (g : Nat) (t : TypeId) (cs : List Value) : Prop := w.heap[g]? = some (.cells cs.toArray t (0, 0))
section
variable {w w' : World} {g : Nat} {t : TypeId} {cs : List Value}
theorem Blk.lt (h : Blk w g t cs) : g < w.heap.size := by
 rcases Nat.lt_or_ge g w.heap.size with hlt | hge
 · exact hlt
 · unfold Blk at h; rw [Array.getElem?_eq_none hge] at h; cases h
theorem Blk.cell (h : Blk w g t cs) (i : Nat) : w.cell? ⟨g, i, none⟩ = cs[i]? := by rw [cell_of_row w g i cs.toArray t (0, 0) h]; simp
theorem Blk.frozen (h : Blk w g t cs) (i : Nat) : w.frozen? ⟨g, i, none⟩ = false := by
 unfold Blk at h
 simp [World.frozen?, h]
theorem Blk.new (w : World) (t : TypeId) (cs : List Value) : Blk (w.alloc (.cells cs.toArray t)) w.heap.size t cs := heap_alloc_new w _
theorem Blk.new' {w : World} {t : TypeId} {cs : List Value} {A : Array Value} {g : Nat} (hg : g = w.heap.size) (hA : A = cs.toArray) : Blk (w.alloc (.cells A t)) g t cs := by subst hg; subst hA; exact heap_alloc_new w _
theorem Blk.drew (h : Blk w g t cs) : Blk w.drew g t cs := h
theorem Blk.drewN (h : Blk w g t cs) (n : Nat) : Blk (w.drewN n) g t cs := h
theorem Blk.alloc (h : Blk w g t cs) (o : Obj) : Blk (w.alloc o) g t cs := (Below.heap_alloc w o g h.lt).trans h
theorem Blk.far (h : Blk w g t cs) {p : Addr} (hp : g ≠ p.block) (u : Value) : Blk (w.setCell p u) g t cs := (Below.heap_setCell w p u g hp).trans h
theorem Blk.below {B : Nat} (h : Blk w g t cs) (hb : Below B w w') (hg : g < B) : Blk w' g t cs := (hb.block g hg).trans h
theorem Blk.grown {row : Option Nat} (h : Blk w g t cs) (hb : w.grownBy w' row) (hg : some g ≠ row) : Blk w' g t cs := (hb.block g h.lt hg).trans h
theorem Blk.range (h : Blk w g t cs) : w.rangeAt g 0 cs := fun j v hv => by rw [h.cell, Nat.zero_add]; exact hv
theorem Blk.mid (h : Blk w g t cs) (o : Nat) (ds : List Value) (hd : ∀ j v, ds[j]? = some v → cs[o + j]? = some v) : w.rangeAt g o ds := fun j v hv => by rw [h.cell]; exact hd j v hv
theorem Blk.there (h : Blk w g t cs) (o n : Nat) (hn : o + n ≤ cs.length) : w.there g o n := fun j hj => by
 rw [h.cell, h.frozen]
 exact ⟨by simp; omega, rfl⟩
theorem Blk.rd (h : Blk w g t cs) (o n : Nat) (hn : o + n ≤ cs.length) : Rd w (some ⟨g, o, none⟩) n ((cs.drop o).take n) := by
 refine ⟨by simp; omega, fun _ => ⟨g, o, rfl, h.lt, fun j u hu => ?_⟩⟩
 rw [h.cell]
 rw [List.getElem?_take] at hu
 split at hu
 · simpa using hu
 · cases hu
end
theorem splice_cons {α : Type} (cs : List α) (o : Nat) (v : α) (r : List α) (h : o < cs.length) : splice cs o (v :: r) = splice (cs.set o v) (o + 1) r := by
 unfold splice
 have e1 : (cs.set o v).take (o + 1) = cs.take o ++ [v] := by
   rw [List.take_succ_eq_append_getElem (by simpa using h), List.take_set_of_le (Nat.le_refl _)]
   simp
 rw [e1, List.drop_set_of_lt (by omega)]
 simp [Nat.add_assoc, Nat.add_comm 1]
theorem setCells_heap (g : Nat) (t : TypeId) : ∀ (vs : List Value) (o : Nat) (cs : List Value) (w : World), Blk w g t cs → o + vs.length ≤ cs.length →
   Blk (w.setCells g o vs) g t (splice cs o vs) := by
 intro vs
 induction vs with
 | nil => intro o cs w h ho; simpa [World.setCells, splice] using h
 | cons v r ih =>
   intro o cs w h ho
   rw [World.setCells]
   simp only [List.length_cons] at ho
   have h1 : Blk (w.setCell ⟨g, o, none⟩ v) g t (cs.set o v) := by
     unfold Blk at h ⊢
     simp [World.setCell, Array.getElem?_modify, h]
   have := ih (o + 1) (cs.set o v) _ h1 (by simp; omega)
   rw [splice_cons cs o v r (by omega)]
   exact this
theorem setCells_below (g B : Nat) (w0 : World) : ∀ (vs : List Value) (o : Nat) (w : World), Below B w0 w → B ≤ g → Below B w0 (w.setCells g o vs) := by
 intro vs
 induction vs with
 | nil => intro o w h _; exact h
 | cons v r ih => intro o w h hg; rw [World.setCells]; exact ih (o + 1) _ (h.setCell (p := ⟨g, o, none⟩) hg v) hg
theorem setCells_size (g : Nat) : ∀ (vs : List Value) (o : Nat) (w : World), (w.setCells g o vs).heap.size = w.heap.size := by
 intro vs
 induction vs with
 | nil => intro o w; rfl
 | cons v r ih => intro o w; rw [World.setCells, ih]; simp [World.setCell]
theorem setCells_other (g g' : Nat) (hne : g' ≠ g) : ∀ (vs : List Value) (o : Nat) (w : World), (w.setCells g o vs).heap[g']? = w.heap[g']? := by
 intro vs
 induction vs with
 | nil => intro o w; rfl
 | cons v r ih => intro o w; rw [World.setCells, ih]; exact Below.heap_setCell w ⟨g, o, none⟩ v g' hne
/-! ### Laws at one operation: the world behind it is a letter -/
section
variable {P : Program} {w : World} {ops : Array Oper} {rest : List Oper} {o : Oper} {a : Act} {K : Act → World → Prop} {Q : Exit → Act → World → Prop}
structure Only (w w' : World) (g : Nat) : Prop where
 grown : w.grownBy w' (some g)
 size : w'.heap.size = w.heap.size
theorem Only.below {B g : Nat} {w0 w w' : World} (h : Only w w' g) (hb : Below B w0 w) (hg : B ≤ g) (hB : B ≤ w.heap.size) : Below B w0 w' :=
 hb.grown h.grown hB (fun k hk => by injection hk with hk; omega)
theorem Only.blk {w w' : World} {g g' : Nat} {t : TypeId} {cs : List Value} (h : Only w w' g) (hb : Blk w g' t cs) (hne : g' ≠ g) : Blk w' g' t cs :=
 hb.grown h.grown (fun e => hne (by injection e))
theorem Only.rd {w w' : World} {g n : Nat} {A : Option Addr} {xs : List Value} (h : Only w w' g) (hr : Rd w A n xs) (hne : ∀ ad, A = some ad → ad.block ≠ g) : Rd w' A n xs :=
 ⟨hr.1, fun hn => by
   obtain ⟨b, off, e, hb, hc⟩ := hr.2 hn
   refine ⟨b, off, e, by rw [h.size]; exact hb, fun j u hu => ?_⟩
   exact (World.cell?_of_block (a := ⟨b, off + j, none⟩) (h.grown.block b hb (fun e' => hne _ e (by injection e')))).trans (hc j u hu)⟩
theorem Only.of_setCells (w : World) (g o : Nat) (vs : List Value) : Only w (w.setCells g o vs) g :=
 have hb := setCells_below g w.heap.size w vs o w
 ⟨⟨by clear hb; revert o w; induction vs with
     | nil => intros; rfl
     | cons v r ih => intro w o; rw [World.setCells, ih]; rfl,
   by clear hb; revert o w; induction vs with
     | nil => intros; rfl
     | cons v r ih => intro w o; rw [World.setCells, ih]; rfl,
   by clear hb; revert o w; induction vs with
     | nil => intros; rfl
     | cons v r ih => intro w o; rw [World.setCells, ih]; rfl,
   Nat.le_of_eq (setCells_size g vs o w).symm, fun k _ hne => setCells_other g k (fun e => hne (by rw [e])) vs o w⟩, setCells_size g vs o w⟩
theorem wpList_of (hgd : o.guard = none) (h : ∀ K : Act → World → Prop, (∀ a w, wpList P ops Q rest a w → K a w) → o.wp P a w K Q) : wpList P ops Q (o :: rest) a w := wpList_plain hgd h
theorem step_of {E : Prop} (hgd : o.guard = none) (h : o.wp P a w K Q) : if Region.wanted o (yielded ops a.tmps) = true then Oper.wp P o a w K Q else E := by
 rw [if_pos (by simp [Region.wanted, hgd])]
 exact h
theorem wp_val {v : Value} {w' : World} (hrun : (execOp a.eval o).run P w = .ok (.value v) w') (h : K (a.put o.dst v) w') : o.wp P a w K Q := by
 unfold Oper.wp
 rw [hrun]
 exact h
theorem wpList_val (hgd : o.guard = none) {v : Value} {w' : World} (hrun : (execOp a.eval o).run P w = .ok (.value v) w') (h : wpList P ops Q rest (a.put o.dst v) w') : wpList P ops Q (o :: rest) a w :=
 wpList_of hgd fun _ hK => wp_val hrun (hK _ _ h)
theorem exec_builtin (b : Builtin) (xs : Array Operand) (ts : Array TypeId) (ho : o.op = .call { callee := .builtin b, args := xs, argTypes := ts }) {args : Array Value} (he : xs.map a.eval = args) {n : Next} {w' : World}
   (hrun : ∀ cs, (builtin b ts o.type cs args).run P w = .ok n w') : (execOp a.eval o).run P w = .ok n w' := by
 unfold execOp
 simp only [ho, resolve, invoke, Sem.run_bind, Sem.run_pure, Result.andThen_ok, he, hrun]
theorem wp_copy (d s : Operand) (T : TypeId) (ho : o.op = .call { callee := .builtin .copy, args := #[d, s], argTypes := #[T, T] }) (E : TypeId) (hu : P.underlying T = some (.slice E)) (hsz : (P.info? E).map (·.size) = some 1)
   (g off dLen dCap : Nat) (hd : a.eval d = .slice (some ⟨g, off, none⟩) dLen dCap) (sp : Option Addr) (sLen sCap : Nat) (hs : a.eval s = .slice sp sLen sCap)
   (t : TypeId) (cur : List Value) (hB : Blk w g t cur) (xs : List Value) (hr : Rd w sp sLen xs) (h1 : ∀ v ∈ xs, v.oneCell' = true) (hfit : off + dLen ≤ cur.length)
   (h : ∀ w', Blk w' g t (splice cur off (xs.take dLen)) → Only w w' g → K (a.put o.dst (goInt (xs.take dLen).length)) w') : o.wp P a w K Q := by
 have hl : (xs.take dLen).length = Nat.min sLen dLen := by rw [List.length_take, hr.1]; exact Nat.min_comm _ _
 have he : #[d, s].map a.eval = #[.slice (some ⟨g, off, none⟩) dLen dCap, .slice sp sLen sCap] := by simp [hd, hs]
 by_cases h0 : Nat.min sLen dLen = 0
 · have hrun := run_copy_none (P := P) w T T o.type E (some ⟨g, off, none⟩) sp dLen dCap sLen sCap hu hsz h0
   have h0' : xs.take dLen = [] := List.eq_nil_of_length_eq_zero (by rw [hl, h0])
   refine wp_val (exec_builtin .copy #[d, s] #[T, T] ho he fun cs => ?_) (h w (by rw [h0']; simpa [splice] using hB) ⟨⟨rfl, rfl, rfl, Nat.le_refl _, fun _ _ _ => rfl⟩, rfl⟩)
   simp only [builtin, Sem.run_bind, hrun, Sem.run_pure, Result.andThen_ok, h0']
   rfl
 · have hpos : 0 < sLen := by
     have : Nat.min sLen dLen ≤ sLen := Nat.min_le_left _ _
     omega
   obtain ⟨b, soff, rfl, hb, hc⟩ := hr.2 hpos
   have hrun := run_copy_row (P := P) w T T o.type E g off dLen dCap ⟨b, soff, none⟩ sLen sCap cur.toArray t (xs.take dLen) hu hsz hB hl
     (fun j v hv => by
       rw [Addr.add_mid]
       rw [List.getElem?_take] at hv
       split at hv
       · exact hc j v hv
       · cases hv)
     (by rw [hl]; have : Nat.min sLen dLen ≤ dLen := Nat.min_le_right _ _; simp; omega) (fun v hv => h1 v (List.mem_of_mem_take hv))
   refine wp_val (exec_builtin .copy #[d, s] #[T, T] ho he fun cs => ?_)
     (h (w.setRow g (cur.toArray.toList.take off ++ (xs.take dLen) ++ cur.toArray.toList.drop (off + (xs.take dLen).length)).toArray) (show _ = _ by rw [setRow_heap w g _ _ t _ hB]; simp [splice])
       ⟨⟨rfl, rfl, rfl, by simp [World.setRow], fun k _ hk => setRow_other w g k _ (fun e => hk (by rw [e]))⟩, by simp [World.setRow]⟩)
   simp only [builtin, Sem.run_bind, hrun, Sem.run_pure, Result.andThen_ok]
theorem wpList_copy (hgd : o.guard = none) (d s : Operand) (T : TypeId) (ho : o.op = .call { callee := .builtin .copy, args := #[d, s], argTypes := #[T, T] }) (E : TypeId) (hu : P.underlying T = some (.slice E)) (hsz : (P.info? E).map (·.size) = some 1)
   (g off dLen dCap : Nat) (hd : a.eval d = .slice (some ⟨g, off, none⟩) dLen dCap) (sp : Option Addr) (sLen sCap : Nat) (hs : a.eval s = .slice sp sLen sCap)
   (t : TypeId) (cur : List Value) (hB : Blk w g t cur) (xs : List Value) (hr : Rd w sp sLen xs) (h1 : ∀ v ∈ xs, v.oneCell' = true) (hfit : off + dLen ≤ cur.length)
   (h : ∀ w', Blk w' g t (splice cur off (xs.take dLen)) → Only w w' g → wpList P ops Q rest (a.put o.dst (goInt (xs.take dLen).length)) w') : wpList P ops Q (o :: rest) a w :=
 wpList_of hgd fun _ hK => wp_copy d s T ho E hu hsz g off dLen dCap hd sp sLen sCap hs t cur hB xs hr h1 hfit fun w' hb hg => hK _ _ (h w' hb hg)
theorem step_copy {F : Prop} (hgd : o.guard = none) (d s : Operand) (T : TypeId) (ho : o.op = .call { callee := .builtin .copy, args := #[d, s], argTypes := #[T, T] }) (E : TypeId) (hu : P.underlying T = some (.slice E)) (hsz : (P.info? E).map (·.size) = some 1)
   (g off dLen dCap : Nat) (hd : a.eval d = .slice (some ⟨g, off, none⟩) dLen dCap) (sp : Option Addr) (sLen sCap : Nat) (hs : a.eval s = .slice sp sLen sCap)
   (t : TypeId) (cur : List Value) (hB : Blk w g t cur) (xs : List Value) (hr : Rd w sp sLen xs) (h1 : ∀ v ∈ xs, v.oneCell' = true) (hfit : off + dLen ≤ cur.length)
   (h : ∀ w', Blk w' g t (splice cur off (xs.take dLen)) → Only w w' g → K (a.put o.dst (goInt (xs.take dLen).length)) w') : if Region.wanted o (yielded ops a.tmps) = true then Oper.wp P o a w K Q else F :=
 step_of hgd (wp_copy d s T ho E hu hsz g off dLen dCap hd sp sLen sCap hs t cur hB xs hr h1 hfit h)
theorem wp_store (ty : TypeId) (x y : Operand) (ho : o.op = .store ty x y) (g off : Nat) (cs : List Value) (hx : a.eval x = .pointer (some ⟨g, off, none⟩)) (hy : a.eval y = .agg cs.toArray)
   (t : TypeId) (cur : List Value) (hB : Blk w g t cur) (hi : (P.info? ty).map (·.size) = some cs.length) (h1 : ∀ v ∈ cs, v.oneCell' = true) (hfit : off + cs.length ≤ cur.length)
   (h : ∀ w', Blk w' g t (splice cur off cs) → Only w w' g → K (a.put o.dst undef) w') : o.wp P a w K Q :=
 wp_store_mid ty x y ho g off cs.toArray hx hy (by simpa using hB.there off cs.length hfit) (by simpa using hi) (all_oneCell_toArray h1)
   (h _ (by simpa using setCells_heap g t cs off cur w hB hfit) (by simpa using Only.of_setCells w g off cs))
theorem wpList_store (hgd : o.guard = none) (ty : TypeId) (x y : Operand) (ho : o.op = .store ty x y) (g off : Nat) (cs : List Value) (hx : a.eval x = .pointer (some ⟨g, off, none⟩)) (hy : a.eval y = .agg cs.toArray)
   (t : TypeId) (cur : List Value) (hB : Blk w g t cur) (hi : (P.info? ty).map (·.size) = some cs.length) (h1 : ∀ v ∈ cs, v.oneCell' = true) (hfit : off + cs.length ≤ cur.length)
   (h : ∀ w', Blk w' g t (splice cur off cs) → Only w w' g → wpList P ops Q rest (a.put o.dst undef) w') : wpList P ops Q (o :: rest) a w :=
 wpList_of hgd fun _ hK => wp_store ty x y ho g off cs hx hy t cur hB hi h1 hfit fun w' hb hg => hK _ _ (h w' hb hg)
end
theorem res_cell_tmp {P : Program} {w : World} {fn : Func} {p u : Tmp} {ty : TypeId} (h : fn.results = #[.cell p ty, .tmp u]) (tmps : Array Value) (g : Nat) (t : TypeId) (cs : List Value) (hp : tmps.getD p undef = .pointer (some ⟨g, 0, none⟩))
   (hB : Blk w g t cs) (d : TypeDesc) (hu : P.underlying ty = some d) (hd : d.isRow = true) (hi : (P.info? ty).map (·.size) = some cs.length) :
   (results fn tmps).run P w = .ok (.tuple #[.agg cs.toArray, tmps.getD u undef]) w := by
 rw [results_cell_tmp h, hp]
 simp [asAddr, run_loadVar_mid w g 0 ty cs d hB.range hu hd hi]
theorem res_cell {P : Program} {w : World} {fn : Func} {p : Tmp} {ty : TypeId} (h : fn.results = #[.cell p ty]) (tmps : Array Value) (g : Nat) (t : TypeId) (cs : List Value) (hp : tmps.getD p undef = .pointer (some ⟨g, 0, none⟩))
   (hB : Blk w g t cs) (d : TypeDesc) (hu : P.underlying ty = some d) (hd : d.isRow = true) (hi : (P.info? ty).map (·.size) = some cs.length) :
   (results fn tmps).run P w = .ok (.agg cs.toArray) w := by
 have hp' : tmps[p]?.getD undef = .pointer (some ⟨g, 0, none⟩) := by rw [← hp]; simp
 simp [results, h, hp', asAddr, run_loadVar_mid w g 0 ty cs d hB.range hu hd hi]
theorem splice_whole {α : Type} (Z cs : List α) (h : cs.length = Z.length) : splice Z 0 cs = cs := by
 unfold splice
 rw [List.drop_eq_nil_of_le (by omega)]
 simp
/-! ### append onto a row of the call's own; the source nil, empty or not; elements of sz cells -/
def RdS (sz : Nat) (w : World) (A : Option Addr) (n : Nat) (xs : List Value) : Prop :=
 xs.length = n * sz ∧ (0 < n → ∃ b off, A = some ⟨b, off, none⟩ ∧ b < w.heap.size ∧ ∀ j u, xs[j]? = some u → w.cell? ⟨b, off + j, none⟩ = some u)
theorem Rd.toS {w : World} {A : Option Addr} {n : Nat} {xs : List Value} (h : Rd w A n xs) : RdS 1 w A n xs := ⟨by simpa using h.1, h.2⟩
theorem RdS.to1 {w : World} {A : Option Addr} {n : Nat} {xs : List Value} (h : RdS 1 w A n xs) : Rd w A n xs := ⟨by simpa using h.1, h.2⟩
section
variable {P : Program} {w : World} {ops : Array Oper} {rest : List Oper} {o : Oper} {a : Act} {K : Act → World → Prop} {Q : Exit → Act → World → Prop}
theorem run_app_nil (base : Nat) (t ty e : TypeId) (i : TypeInfo) (size : Nat) (ht : P.underlying t = some (.slice e)) (hi : P.info? e = some i)
   (v : Value) (n : Nat) (xs : List Value) (hown : w.ownsRow base e size v n xs) (c : Nat) : (Builtin.append_ #[t, t] ty #[v, .slice none 0 c]).run P w = .ok v w := by
 rcases hown.2 with ⟨rfl, rfl⟩ | ⟨g, cap, cur, rfl, _, _, hnc, _⟩
 · simp [Builtin.append_, run_underlying ht, sizeOf, typeInfo, hi, Builtin.lenOf, Builtin.firstCells]
 · simp [Builtin.append_, run_underlying ht, sizeOf, typeInfo, hi, Builtin.lenOf, Builtin.firstCells, hnc, storeCells]
structure ElemIs (P : Program) (e : TypeId) (size bytes : Nat) : Prop where
 ex : ∃ i z, P.info? e = some i ∧ i.zero = some z ∧ i.size = size ∧ i.bytes = bytes ∧ z.cells.size = size
 pos : 0 < size
theorem ElemIs.of {P : Program} {e : TypeId} {z : Value} {size bytes : Nat} (h : (P.info? e).map (fun i => (i.zero, i.size, i.bytes)) = some (some z, size, bytes)) (hz : z.cells.size = size) (hp : 0 < size) : ElemIs P e size bytes := by
 cases hq : P.info? e with
 | none => simp [hq] at h
 | some i =>
   simp [hq] at h
   exact ⟨⟨i, z, hq, h.1, h.2.1, h.2.2, hz⟩, hp⟩
theorem run_app (base : Nat) (t ty e : TypeId) (size bytes : Nat) (ht : P.underlying t = some (.slice e)) (he : ElemIs P e size bytes)
   (v : Value) (n : Nat) (xs : List Value) (hown : w.ownsRow base e size v n xs)
   (A : Option Addr) (m c : Nat) (news : List Value) (hr : RdS size w A m news) (h1 : ∀ u ∈ news, u.oneCell' = true)
   (h63 : n + m ≤ maxLen) (hbytes : (n + m) * bytes ≤ 140737488355328) (hbase : base ≤ w.heap.size) :
   ∃ v' w', (Builtin.append_ #[t, t] ty #[v, .slice A m c]).run P w = .ok v' w' ∧ w'.ownsRow base e size v' (n + m) (xs ++ news) ∧ w.grownBy w' v.ownBlock ∧
     (v'.ownBlock = v.ownBlock ∨ v'.ownBlock = some w.heap.size) := by
 obtain ⟨⟨i, z, hi, hz, hsize, hby, hzs⟩, hsz⟩ := he
 rcases A with _ | ad
 · have hm : m = 0 := by
     rcases Nat.eq_zero_or_pos m with h0 | h0
     · exact h0
     · obtain ⟨b, off, h, _⟩ := hr.2 h0
       cases h
   subst hm
   have hn : news = [] := List.eq_nil_of_length_eq_zero (by simpa using hr.1)
   subst hn
   exact ⟨v, w, run_app_nil base t ty e i size ht hi v n xs hown c, by simpa using hown, World.grownBy.refl w _, .inl rfl⟩
 · have hcells : ∀ j u, news[j]? = some u → w.cell? (ad.add j) = some u := by
     intro j u hu
     rcases Nat.eq_zero_or_pos m with h0 | h0
     · subst h0
       have hn : news = [] := List.eq_nil_of_length_eq_zero (by simpa using hr.1)
       subst hn
       simp at hu
     · obtain ⟨b, off, h, _, hc⟩ := hr.2 h0
       injection h with h
       subst h
       rw [Addr.add_mid]
       exact hc j u hu
   obtain ⟨v', w', hrun, h2, h3, _, h5⟩ := run_append_own_at (P := P) w base t ty e i z size bytes ht hi hz hsize hby hzs hsz v n xs hown ad m c news hr.1 hcells h1 h63 hbytes hbase
   exact ⟨v', w', hrun, h2, h3, h5⟩
theorem own_form {w : World} {base n : Nat} {e : TypeId} {size : Nat} {v : Value} {xs : List Value} (h : w.ownsRow base e size v n xs) : ∃ A c, v = .slice A n c ∧ n ≤ c := by
 rcases h.2 with ⟨rfl, rfl⟩ | ⟨g, cap, cur, rfl, _, _, hnc, _⟩
 · exact ⟨_, _, rfl, Nat.le_refl _⟩
 · exact ⟨_, _, rfl, hnc⟩
theorem wp_app (s x : Operand) (t : TypeId) (ho : o.op = .call { callee := .builtin .append, args := #[s, x], argTypes := #[t, t] })
   (base : Nat) (e : TypeId) (size bytes : Nat) (ht : P.underlying t = some (.slice e)) (he : ElemIs P e size bytes)
   (v : Value) (n : Nat) (xs : List Value) (hs : a.eval s = v) (hown : w.ownsRow base e size v n xs)
   (A : Option Addr) (m c : Nat) (news : List Value) (hx : a.eval x = .slice A m c) (hr : RdS size w A m news) (h1 : ∀ u ∈ news, u.oneCell' = true)
   (hbytes : n * bytes + m * bytes ≤ 140737488355328) (h63 : n + m ≤ 140737488355328) (hbase : base ≤ w.heap.size)
   (h : ∀ A' c' w', w'.ownsRow base e size (.slice A' (n + m) c') (n + m) (xs ++ news) → n + m ≤ c' → w.grownBy w' v.ownBlock → (Value.ownBlock (.slice A' (n + m) c') = v.ownBlock ∨ Value.ownBlock (.slice A' (n + m) c') = some w.heap.size) → K (a.put o.dst (.slice A' (n + m) c')) w') : o.wp P a w K Q := by
 obtain ⟨v', w', hrun, h2, h3, h4⟩ := run_app (P := P) base t o.type e size bytes ht he v n xs hown A m c news hr h1 (by simp only [maxLen]; omega) (by rw [Nat.add_mul]; exact hbytes) hbase
 have hev : #[s, x].map a.eval = #[v, .slice A m c] := by simp [hs, hx]
 obtain ⟨A', c', rfl, hc⟩ := own_form h2
 refine wp_val (exec_builtin .append #[s, x] #[t, t] ho hev fun cs => ?_) (h A' c' w' h2 hc h3 h4)
 simp only [builtin, Sem.run_bind, hrun, Sem.run_pure, Result.andThen_ok]
theorem wpList_app (hgd : o.guard = none) (s x : Operand) (t : TypeId) (ho : o.op = .call { callee := .builtin .append, args := #[s, x], argTypes := #[t, t] })
   (base : Nat) (e : TypeId) (size bytes : Nat) (ht : P.underlying t = some (.slice e)) (he : ElemIs P e size bytes)
   (v : Value) (n : Nat) (xs : List Value) (hs : a.eval s = v) (hown : w.ownsRow base e size v n xs)
   (A : Option Addr) (m c : Nat) (news : List Value) (hx : a.eval x = .slice A m c) (hr : RdS size w A m news) (h1 : ∀ u ∈ news, u.oneCell' = true)
   (hbytes : n * bytes + m * bytes ≤ 140737488355328) (h63 : n + m ≤ 140737488355328) (hbase : base ≤ w.heap.size)
   (h : ∀ A' c' w', w'.ownsRow base e size (.slice A' (n + m) c') (n + m) (xs ++ news) → n + m ≤ c' → w.grownBy w' v.ownBlock → (Value.ownBlock (.slice A' (n + m) c') = v.ownBlock ∨ Value.ownBlock (.slice A' (n + m) c') = some w.heap.size) → wpList P ops Q rest (a.put o.dst (.slice A' (n + m) c')) w') : wpList P ops Q (o :: rest) a w :=
 wpList_of hgd fun _ hK => wp_app s x t ho base e size bytes ht he v n xs hs hown A m c news hx hr h1 hbytes h63 hbase fun A' c' w' h2 hc h3 h4 => hK _ _ (h A' c' w' h2 hc h3 h4)
theorem step_app {F : Prop} (hgd : o.guard = none) (s x : Operand) (t : TypeId) (ho : o.op = .call { callee := .builtin .append, args := #[s, x], argTypes := #[t, t] })
   (base : Nat) (e : TypeId) (size bytes : Nat) (ht : P.underlying t = some (.slice e)) (he : ElemIs P e size bytes)
   (v : Value) (n : Nat) (xs : List Value) (hs : a.eval s = v) (hown : w.ownsRow base e size v n xs)
   (A : Option Addr) (m c : Nat) (news : List Value) (hx : a.eval x = .slice A m c) (hr : RdS size w A m news) (h1 : ∀ u ∈ news, u.oneCell' = true)
   (hbytes : n * bytes + m * bytes ≤ 140737488355328) (h63 : n + m ≤ 140737488355328) (hbase : base ≤ w.heap.size)
   (h : ∀ A' c' w', w'.ownsRow base e size (.slice A' (n + m) c') (n + m) (xs ++ news) → n + m ≤ c' → w.grownBy w' v.ownBlock → (Value.ownBlock (.slice A' (n + m) c') = v.ownBlock ∨ Value.ownBlock (.slice A' (n + m) c') = some w.heap.size) → K (a.put o.dst (.slice A' (n + m) c')) w') : if Region.wanted o (yielded ops a.tmps) = true then Oper.wp P o a w K Q else F :=
 step_of hgd (wp_app s x t ho base e size bytes ht he v n xs hs hown A m c news hx hr h1 hbytes h63 hbase h)
end
theorem RdS.new (w : World) (t : TypeId) (cs : List Value) (sz : Nat) (h : cs.length = sz) : RdS sz (w.alloc (.cells cs.toArray t)) (some ⟨w.heap.size, 0, none⟩) 1 cs :=
 ⟨by simpa using h, fun _ => ⟨w.heap.size, 0, rfl, by simp, fun j u hu => by rw [(Blk.new w t cs).cell, Nat.zero_add]; exact hu⟩⟩
def rep {α : Type} (n : Nat) (z : α) : List α := List.replicate n z
theorem rep_length {α : Type} (n : Nat) (z : α) : (rep n z).length = n := by simp [rep]
theorem rep_get {α : Type} {n : Nat} {z : α} {i : Nat} (h : i < n) : (rep n z)[i]? = some z := by
 unfold rep
 rw [List.getElem?_replicate, if_pos h]
theorem rep_u8s (n : Nat) (c : UInt8) : rep n (u8 c) = u8s (rep n c) := by simp [rep, u8s]
theorem own_of_blk {w : World} {g base : Nat} {e : TypeId} {cs : List Value} (h : Blk w g e cs) (hb : base ≤ g) (n cap size : Nat) (hn : n ≤ cap) (hc : cs.length = cap * size) (hm : cap ≤ 140737488355328) :
   w.ownsRow base e size (.slice (some ⟨g, 0, none⟩) n cap) n (cs.take (n * size)) :=
 ⟨by rw [List.length_take, hc]; exact Nat.min_eq_left (Nat.mul_le_mul_right _ hn), .inr ⟨g, cap, cs.toArray, rfl, hb, h, hn, by simp only [maxLen]; omega, by simpa using hc, by simp⟩⟩
section
variable {P : Program} {w : World} {ops : Array Oper} {rest : List Oper} {o : Oper} {a : Act} {K : Act → World → Prop} {Q : Exit → Act → World → Prop}
theorem wp_make1 (x y : Operand) (t : TypeId) (ho : o.op = .makeSlice t x y) (e : TypeId) (z : Value) (bytes : Nat) (ht : P.underlying t = some (.slice e)) (hi : (P.info? e).map (fun i => (i.zero, i.size, i.bytes)) = some (some z, 1, bytes)) (hz : z.cells = #[z])
   (kl kc : IntKind) (ln lc : Int) (hx : a.eval x = .int kl ln) (hy : a.eval y = .int kc lc) (n c : Nat) (hn : ln = n) (hc : lc = c) (hnc : n ≤ c) (hbytes : bytes * c ≤ 281474976710656) (h63 : c ≤ 140737488355328)
   (h : ∀ w', Blk w' w.heap.size e (rep c z) → w.grownBy w' none → w'.heap.size = w.heap.size + 1 → K (a.put o.dst (.slice (some ⟨w.heap.size, 0, none⟩) n c)) w') : o.wp P a w K Q := by
 subst hn
 subst hc
 cases hq : P.info? e with
 | none => simp [hq] at hi
 | some i =>
   simp [hq] at hi
   obtain ⟨hz0, hz1, hz2⟩ := hi
   subst hz2
   have hr := run_make (P := P) w t e i z ht hq hz0 kl kc n c (by omega) (by omega) (by
     have h : ((i.bytes * c : Nat) : Int) ≤ 281474976710656 := by omega
     rwa [Int.natCast_mul] at h) (by omega)
   rw [hz1, Nat.mul_one, hz] at hr
   simp only [Int.toNat_natCast] at hr
   refine wp_val (v := .slice (some ⟨w.heap.size, 0, none⟩) n c) ?_ (h (w.alloc (.cells (madeCells #[z] c) e)) (Blk.new' rfl (by unfold rep; rw [← toList_madeCells_one])) (World.grownBy_alloc w _ none) (by simp))
   unfold execOp
   simp only [ho, hx, hy, Sem.run_bind, hr, Sem.run_pure, Result.andThen_ok]
theorem wpList_make1 (hgd : o.guard = none) (x y : Operand) (t : TypeId) (ho : o.op = .makeSlice t x y) (e : TypeId) (z : Value) (bytes : Nat) (ht : P.underlying t = some (.slice e)) (hi : (P.info? e).map (fun i => (i.zero, i.size, i.bytes)) = some (some z, 1, bytes)) (hz : z.cells = #[z])
   (kl kc : IntKind) (ln lc : Int) (hx : a.eval x = .int kl ln) (hy : a.eval y = .int kc lc) (n c : Nat) (hn : ln = n) (hc : lc = c) (hnc : n ≤ c) (hbytes : bytes * c ≤ 281474976710656) (h63 : c ≤ 140737488355328)
   (h : ∀ w', Blk w' w.heap.size e (rep c z) → w.grownBy w' none → w'.heap.size = w.heap.size + 1 → wpList P ops Q rest (a.put o.dst (.slice (some ⟨w.heap.size, 0, none⟩) n c)) w') : wpList P ops Q (o :: rest) a w :=
 wpList_of hgd fun _ hK => wp_make1 x y t ho e z bytes ht hi hz kl kc ln lc hx hy n c hn hc hnc hbytes h63 fun w' h1 h2 h3 => hK _ _ (h w' h1 h2 h3)
end
def SlB (w : World) (v : Value) (l : List UInt8) : Prop := ∃ A n c, v = .slice A n c ∧ n ≤ c ∧ Rd w A n (u8s l)
def RdB (w : World) (A : Option Addr) (n : Nat) (ls : List (List UInt8)) : Prop :=
 ∃ vs : List Value, Rd w A n vs ∧ ls.length = n ∧ ∀ (i : Nat) (v : Value), vs[i]? = some v → ∃ l, ls[i]? = some l ∧ SlB w v l
theorem SlB.below {w w' : World} {v : Value} {l : List UInt8} (h : SlB w v l) (hb : Below w.heap.size w w') : SlB w' v l := by
 obtain ⟨A, n, c, e, hn, hr⟩ := h
 exact ⟨A, n, c, e, hn, hr.below hb⟩
theorem RdB.below {w w' : World} {A : Option Addr} {n : Nat} {ls : List (List UInt8)} (h : RdB w A n ls) (hb : Below w.heap.size w w') : RdB w' A n ls := by
 obtain ⟨vs, hr, hl, hv⟩ := h
 exact ⟨vs, hr.below hb, hl, fun i v hi => let ⟨l, h1, h2⟩ := hv i v hi; ⟨l, h1, h2.below hb⟩⟩
theorem RdB.at_ {w : World} {A : Option Addr} {n : Nat} {ls : List (List UInt8)} (h : RdB w A n ls) {k : Nat} (hk : k < n) :
   ∃ b off A1 n1 c1 l, A = some ⟨b, off, none⟩ ∧ b < w.heap.size ∧ Hid (ls[k]? = some l) ∧ w.cell? ⟨b, off + k, none⟩ = some (.slice A1 n1 c1) ∧ n1 ≤ c1 ∧ Rd w A1 n1 (u8s l) := by
 obtain ⟨vs, hr, hl, hv⟩ := h
 obtain ⟨b, off, u, rfl, hb, hu, hc⟩ := hr.at_ hk
 obtain ⟨l, h1, A1, n1, c1, rfl, h2, h3⟩ := hv k u hu.out
 exact ⟨b, off, A1, n1, c1, l, rfl, hb, h1, hc, h2, h3⟩
theorem grown_below {w w' : World} (h : w.grownBy w' none) : Below w.heap.size w w' := (Below.refl _ _).grown h (Nat.le_refl _) (by simp)
def SlBs (w : World) : List Value → List (List UInt8) → Prop
 | [], [] => True
 | v :: vs, l :: ls => SlB w v l ∧ SlBs w vs ls
 | _, _ => False
theorem SlBs.get {w : World} : ∀ {vs : List Value} {ls : List (List UInt8)}, SlBs w vs ls → ls.length = vs.length ∧ ∀ (i : Nat) (v : Value), vs[i]? = some v → ∃ l, ls[i]? = some l ∧ SlB w v l
 | [], [], _ => ⟨rfl, fun i v h => by simp at h⟩
 | v :: vs, l :: ls, h => by
   obtain ⟨h1, h2⟩ := h
   obtain ⟨h3, h4⟩ := SlBs.get h2
   refine ⟨by simp [h3], fun i u hu => ?_⟩
   cases i with
   | zero => simp at hu; subst hu; exact ⟨l, rfl, h1⟩
   | succ i => simp at hu; simpa using h4 i u hu
 | [], _ :: _, h => h.elim
 | _ :: _, [], h => h.elim
theorem RdB.of_blk {w : World} {g : Nat} {t : TypeId} {vs : List Value} {ls : List (List UInt8)} (h : Blk w g t vs) (hs : SlBs w vs ls) : RdB w (some ⟨g, 0, none⟩) vs.length ls := by
 obtain ⟨h1, h2⟩ := hs.get
 refine ⟨vs, ?_, h1, h2⟩
 have := h.rd 0 vs.length (by omega)
 simpa using this
theorem SlB.of_blk {w : World} {g : Nat} {t : TypeId} {cs : List Value} (h : Blk w g t cs) (o n c : Nat) (l : List UInt8) (hn : o + n ≤ cs.length) (hc : n ≤ c) (hl : (cs.drop o).take n = u8s l) : SlB w (.slice (some ⟨g, o, none⟩) n c) l :=
 ⟨_, _, _, rfl, hc, hl ▸ h.rd o n hn⟩
theorem SlB.of_rd {w : World} {A : Option Addr} {n c : Nat} {l : List UInt8} (h : Rd w A n (u8s l)) (hc : n ≤ c) : SlB w (.slice A n c) l := ⟨_, _, _, rfl, hc, h⟩
theorem own_mono {w : World} {base base' n : Nat} {e : TypeId} {size : Nat} {v : Value} {xs : List Value} (h : w.ownsRow base e size v n xs) (hb : base' ≤ base) : w.ownsRow base' e size v n xs := by
 obtain ⟨h1, h2⟩ := h
 refine ⟨h1, ?_⟩
 rcases h2 with h2 | ⟨g, cap, cur, hv, hg, r⟩
 · exact .inl h2
 · exact .inr ⟨g, cap, cur, hv, Nat.le_trans hb hg, r⟩
/-! ### build: a struct out of parts of several cells -/
theorem foldl_splice (off : Nat) : ∀ (cs : List Value) (k : Nat) (A : List Value), off + k + cs.length ≤ A.length →
   (cs.zipIdx k).foldl (fun (B : Array Value) (p : Value × Nat) => B.setIfInBounds (off + p.2) p.1) A.toArray = (splice A (off + k) cs).toArray
 | [], k, A, _ => by simp [splice]
 | c :: cs, k, A, h => by
   simp only [List.length_cons] at h
   rw [List.zipIdx_cons, List.foldl_cons, splice_cons A (off + k) c cs (by omega), List.setIfInBounds_toArray, foldl_splice off cs (k + 1) (A.set (off + k) c) (by simp; omega)]
   rfl
theorem fill_cons {place : Nat → Option (Nat × Nat)} {Z : List Value} {i off : Nat} {v : Value} {cs : List Value} {rest : List (Nat × Value)} (hv : v.cells = cs.toArray) (hp : place i = some (off, cs.length)) (hfit : off + cs.length ≤ Z.length) :
   Instr.fill place Z.toArray ((i, v) :: rest) = Instr.fill place (splice Z off cs).toArray rest := by
 have h := foldl_splice off cs 0 Z (by omega)
 simp only [Nat.add_zero] at h
 rw [Instr.fill]
 simp only [hp, hv, List.size_toArray]
 rw [if_neg (by simp; omega)]
 congr 1
 rw [← h, ← Array.foldl_toList]
 simp
theorem run_build {P : Program} {t : TypeId} {Z : Array Value} {fields : Array Field} {places : Array (Nat × Nat)} {parts : Array (Nat × Value)} {cells : Array Value} (hz : ∀ w, (zeroValue t).run P w = .ok (.agg Z) w) (hu : P.underlying t = some (.struct fields))
   (hp : ∀ w, (fields.mapM (fun f => do pure (f.offset, ← sizeOf f.type)) : Sem (Array (Nat × Nat))).run P w = .ok places w) (hf : Instr.fill (places[·]?) Z parts.toList = some cells) (w : World) : (Instr.build t parts).run P w = .ok (.agg cells) w := by
 unfold Instr.build
 simp only [Sem.run_bind, hz, Result.andThen_ok, Value.cells, run_underlying hu, hp, hf, Sem.run_pure]
section
variable {P : Program} {w : World} {ops : Array Oper} {rest : List Oper} {o : Oper} {a : Act} {K : Act → World → Prop} {Q : Exit → Act → World → Prop}
theorem wp_build (t : TypeId) (parts : List (Nat × Operand)) (ho : o.op = .build t parts.toArray) (parts' : List (Nat × Value)) (he : parts.map (fun p => (p.1, a.eval p.2)) = parts') (v : Value) (hrun : (Instr.build t parts'.toArray).run P w = .ok v w) (h : K (a.put o.dst v) w) : o.wp P a w K Q := by
 refine wp_val (v := v) ?_ h
 unfold execOp
 simp only [ho, Sem.run_bind, List.map_toArray, he, hrun, Sem.run_pure, Result.andThen_ok]
theorem wpList_build (hgd : o.guard = none) (t : TypeId) (parts : List (Nat × Operand)) (ho : o.op = .build t parts.toArray) (parts' : List (Nat × Value)) (he : parts.map (fun p => (p.1, a.eval p.2)) = parts') (v : Value) (hrun : (Instr.build t parts'.toArray).run P w = .ok v w) (h : wpList P ops Q rest (a.put o.dst v) w) : wpList P ops Q (o :: rest) a w :=
 wpList_of hgd fun _ hK => wp_build t parts ho parts' he v hrun (hK _ _ h)
theorem wpList_store_all (hgd : o.guard = none) (ty : TypeId) (x y : Operand) (ho : o.op = .store ty x y) (g : Nat) (cs : List Value) (hx : a.eval x = .pointer (some ⟨g, 0, none⟩)) (hy : a.eval y = .agg cs.toArray)
   (t : TypeId) (cur : List Value) (hB : Blk w g t cur) (hi : (P.info? ty).map (·.size) = some cs.length) (h1 : ∀ v ∈ cs, v.oneCell' = true) (hfit : cs.length = cur.length)
   (h : ∀ w', Blk w' g t cs → Only w w' g → wpList P ops Q rest (a.put o.dst undef) w') : wpList P ops Q (o :: rest) a w :=
 wpList_store hgd ty x y ho g 0 cs hx hy t cur hB hi h1 (by omega) fun w' hb hg => h w' (by rwa [splice_whole _ _ hfit] at hb) hg
end
theorem splice_two {α : Type} (Z X1 X2 : List α) (k : Nat) (hk : X1.length = k) (hZ : Z.length = k + X2.length) : splice (splice Z 0 X1) k X2 = X1 ++ X2 := by
 subst hk
 have e1 : splice Z 0 X1 = X1 ++ Z.drop X1.length := by simp [splice]
 rw [e1]
 unfold splice
 rw [List.take_left, List.drop_eq_nil_of_le (by simp; omega), List.append_nil]
theorem qbl {w w' : World} {g : Nat} {t : TypeId} {cs : List Value} (h : Hid (Blk w g t cs)) (hb : Below w.heap.size w w') : Hid (Blk w' g t cs) := qh (h.out.below hb h.out.lt)
theorem qtr {w w1 w2 : World} (h : Hid (Below w.heap.size w w1)) (hb : Below w1.heap.size w1 w2) : Hid (Below w.heap.size w w2) := qh (h.out.trans (hb.mono h.out.size))
theorem qal {w w' : World} {o : Obj} {g g' : Nat} {t : TypeId} {cs : List Value} (h : Only (w.alloc o) w' g) (hb : Hid (Blk w g' t cs)) (hne : g' ≠ g) : Hid (Blk w' g' t cs) := qh (h.blk (hb.out.alloc o) hne)
theorem qon {w w' : World} {g g' : Nat} {t : TypeId} {cs : List Value} (h : Only w w' g) (hb : Hid (Blk w g' t cs)) (hne : Hid (g' ≠ g)) : Hid (Blk w' g' t cs) := qh (h.blk hb.out hne.out)
end Go.Proofs.YtpgpaenloaphaaaGreat
namespace Go.Proofs.YtpgpaenloaphaaaGreat
open Go.RowKit
theorem eU8 : ElemIs Tryz.prog 5 1 1 := ElemIs.of (z := .int .u8 0) (by kernel_rfl) rfl (by omega)
theorem take_succ_eq {α : Type} {a b : List α} {k : Nat} {x y : α} (h : a.take k = b.take k) (ha : a[k]? = some x) (hb : b[k]? = some y) (e : x = y) : a.take (k + 1) = b.take (k + 1) := by
 rw [List.take_add_one, List.take_add_one, h, ha, hb, e]
theorem byte_bne {x y : UInt8} (h : ((x.toNat : Int) != (y.toNat : Int)) = false) : x = y := by
 have h := bne_eq_false_iff_eq.1 h
 exact UInt8.toNat_inj.1 (by omega)
theorem byte_bne' {x y : UInt8} (h : ((x.toNat : Int) != (y.toNat : Int)) = true) : x ≠ y := by
 rintro rfl
 simp at h
set_option maxHeartbeats 400000 in
theorem equal_any (A B : Option Addr) (n m c d : Nat) (a b : List UInt8) (w : World) (ha : Rd w A n (u8s a)) (hb : Rd w B m (u8s b)) (hn : n ≤ 140737488355328) (hm : m ≤ 140737488355328) :
   Calls Tryz.prog 13 #[.slice A n c, .slice B m d] w fun e w' => e = .returned (.bool (decide (a = b))) ∧ ∃ q, w' = w.drewN q := by
 have hla := ha.len
 have hlb := hb.len
 have HLA := qh hla
 have HLB := qh hlb
 clear hla hlb
 by_cases hne : n = m
 · subst hne
   go_enter Tryz.func13, Tryz.ntmps13
   go_wp2
   go_loopw [5] (fun i wr => ∃ k : Nat, k ≤ n ∧ i = .int .i64 k ∧ a.take k = b.take k ∧ ∃ q, wr = w.drewN q) (fun i _ => n - (intOf i).toNat)
   case atStart => exact ⟨0, Nat.zero_le _, rfl, rfl, 0, rfl⟩
   case round =>
     obtain ⟨k, hk, rfl, hpre, q, rfl⟩ := hrel
     have HP := qh hpre
     clear hpre
     by_cases hlt : k < n
     · obtain ⟨b1, off1, x, rfl, hb1, HX, hc1⟩ := ha.u8 hlt
       obtain ⟨b2, off2, y, rfl, hb2, HY, hc2⟩ := hb.u8 hlt
       have hi0 : (0 : Int) ≤ (k : Int) := by omega
       have hi1 : (k : Int) < (n : Int) := by omega
       go_wp2
       go_quiet (fail)
       go_wp2
       · go_ret
         refine ⟨?_, q + nq, World.drewN_drewN _ _ _⟩
         have hne : a ≠ b := by
           rintro rfl
           have := HX.out.symm.trans HY.out
           injection this with this
           exact byte_bne' ‹_› this
         simp [hne]
       · go_roundw
         case rel => exact ⟨k + 1, by omega, by go_num, take_succ_eq HP.out HX.out HY.out (byte_bne ‹_›), q + nq, rfl⟩
         case measure => simp [intOf]; omega
     · go_wp2
       go_ret
       refine ⟨?_, q, rfl⟩
       have hab : a = b := by
         have := HP.out
         rwa [List.take_of_length_le (by rw [HLA.out]; omega), List.take_of_length_le (by rw [HLB.out]; omega)] at this
       simp [hab]
 · have hne' : ((n : Int) != (m : Int)) = true := by rw [bne_iff_ne]; omega
   go_enter Tryz.func13, Tryz.ntmps13
   go_wp2
   go_ret
   refine ⟨?_, 0, rfl⟩
   have hab : a ≠ b := by
     rintro rfl
     exact hne (HLA.out.symm.trans HLB.out)
   simp [hab]
set_option maxHeartbeats 400000 in
theorem copy_any (A : Option Addr) (n c : Nat) (l : List UInt8) (w : World) (h : Rd w A n (u8s l)) (hn : n ≤ 140737488355328) :
   Calls Tryz.prog 12 #[.slice A n c] w fun e w' => ∃ A' c', e = .returned (.slice A' n c') ∧ n ≤ c' ∧ w'.ownsRow w.heap.size 5 1 (.slice A' n c') n (u8s l) ∧ Below w.heap.size w w' := by
 go_enter Tryz.func12, Tryz.ntmps12
 go_wp2_with (at_builtin; refine wpList_app rfl (.tmp 3) (.tmp 4) _ rfl w.heap.size 5 1 1 Tryz.underlying22 eU8 (.slice (some ⟨w.heap.size, 0, none⟩) 0 0) 0 [] (by rfl) ?c1 A n c (u8s l) (by rfl) ?c2 (u8s_one _) (by omega) (by omega) (by simp) ?_)
 case c1 => exact ⟨rfl, .inr ⟨w.heap.size, 0, #[], rfl, Nat.le_refl _, heap_alloc_new w _, Nat.le_refl _, by simp [maxLen], rfl, rfl⟩⟩
 case c2 => exact (h.alloc _).toS
 intro A' c' w' hown hc' hg hat
 have hB : Below w.heap.size w w' := ((Below.refl _ _).alloc (Nat.le_refl _) _).grown hg (by simp) (by intro k hk; simp [Value.ownBlock] at hk; omega)
 go_wp2
 go_ret
 exact ⟨A', c', rfl, hc', hown, hB⟩
theorem flat_take_succ (ls : List (List UInt8)) (k : Nat) (l : List UInt8) (h : ls[k]? = some l) : (ls.take (k + 1)).flatten = (ls.take k).flatten ++ l := by
 rw [List.take_add_one, h]; simp
theorem flat_take_le (ls : List (List UInt8)) (k : Nat) : ((ls.take k).flatten).length ≤ ls.flatten.length := by
 have : ls.flatten = (ls.take k).flatten ++ (ls.drop k).flatten := by rw [← List.flatten_append, List.take_append_drop]
 rw [this]; simp
theorem iU8 : (Tryz.prog.info? 5).map (fun i => (i.zero, i.size, i.bytes)) = some (some (.int .u8 0), 1, 1) := by kernel_rfl
set_option maxHeartbeats 800000 in
theorem join_any (A : Option Addr) (n c : Nat) (ls : List (List UInt8)) (w : World) (h : RdB w A n ls) (hn : n ≤ 1073741824) (hf : ls.flatten.length ≤ 1073741824) :
   Calls Tryz.prog 42 #[.slice A n c] w fun e w' => ∃ A' c', e = .returned (.slice A' ls.flatten.length c') ∧ ls.flatten.length ≤ c' ∧ w'.ownsRow w.heap.size 5 1 (.slice A' ls.flatten.length c') ls.flatten.length (u8s ls.flatten) ∧ Below w.heap.size w w' := by
 have hll : ls.length = n := by obtain ⟨_, _, h, _⟩ := h; exact h
 have HLL := qh hll
 clear hll
 go_enter Tryz.func42, Tryz.ntmps42
 go_wp2
 go_loop [3, 11] (fun t i => ∃ k : Nat, k ≤ n ∧ i = .int .i64 k ∧ t = .int .i64 ((ls.take k).flatten.length)) (fun _ i => n - (intOf i).toNat)
 case atStart => exact ⟨0, Nat.zero_le _, rfl, rfl⟩
 case round =>
   obtain ⟨k, hk, rfl, rfl⟩ := hrel
   have hle := flat_take_le ls k
   by_cases hlt : k < n
   · obtain ⟨b, off, A1, n1, c1, l, rfl, hb, HX, hc, hn1, hr1⟩ := h.at_ hlt
     have hs := flat_take_succ ls k l HX.out
     have hle' := flat_take_le ls (k + 1)
     have hlen : (ls.take (k + 1)).flatten.length = (ls.take k).flatten.length + n1 := by rw [hs, List.length_append, hr1.len]
     have HS := qh hlen
     have hb1 : (ls.take k).flatten.length + n1 ≤ 1073741824 := by omega
     clear hs hlen hle'
     generalize hT : (ls.take k).flatten.length = T at *
     have HT := qh hT
     clear hT
     go_wp2
     go_round
     case rel => exact ⟨k + 1, by omega, by go_num, by rw [HS.out]; go_num⟩
     case measure => simp [intOf]; omega
   · have hkn : k = n := by omega
     subst hkn
     rw [List.take_of_length_le (by rw [HLL.out]; exact Nat.le_refl _)] at *
     clear hlt hk hle
     generalize hT : ls.flatten.length = T at *
     have HT := qh hT
     clear hT
     go_wp2_with (at_make; refine wpList_make1 rfl _ _ 22 rfl 5 (.int .u8 0) 1 Tryz.underlying22 iU8 rfl _ _ _ _ rfl rfl 0 T rfl rfl (Nat.zero_le _) (by omega) (by omega) ?_)
     intro w1 hb1 hg1 hs1
     have hB1 : Below w.heap.size w w1 := grown_below hg1
     have hown1 := own_of_blk hb1 (Nat.le_refl _) 0 T 1 (Nat.zero_le _) (by simp [rep_length]) (by omega)
     have HO := qh hown1
     clear hs1 hg1 hb1 hown1
     go_wp2
     go_loopw [6, 24] (fun v i wr => ∃ j : Nat, j ≤ k ∧ i = .int .i64 j ∧ ∃ A' c', v = .slice A' (ls.take j).flatten.length c' ∧ (ls.take j).flatten.length ≤ c' ∧ wr.ownsRow w.heap.size 5 1 (.slice A' (ls.take j).flatten.length c') (ls.take j).flatten.length (u8s (ls.take j).flatten) ∧ Below w.heap.size w wr) (fun _ i _ => k - (intOf i).toNat)
     case atStart => exact ⟨0, Nat.zero_le _, rfl, _, _, rfl, Nat.zero_le _, by simpa [u8s] using HO.out, hB1⟩
     case round =>
       clear HO hB1
       obtain ⟨j, hj, rfl, A', c', rfl, hc', hown, hBr⟩ := hrel
       have hle := flat_take_le ls j
       by_cases hlt : j < k
       · obtain ⟨b, off, A1, n1, c1, l, rfl, hb, HX, hc, hn1, hr1⟩ := (h.below hBr).at_ hlt
         have hs := flat_take_succ ls j l HX.out
         have hle' := flat_take_le ls (j + 1)
         have hlen : (ls.take (j + 1)).flatten.length = (ls.take j).flatten.length + n1 := by rw [hs, List.length_append, hr1.len]
         have HS := qh hlen
         have HS' := qh hs
         have hT' : ls.flatten.length = T := HT.out
         have hb1 : (ls.take j).flatten.length + n1 ≤ 1073741824 := by omega
         clear hs hlen hle' hT' hle
         generalize (ls.take j).flatten = F at *
         generalize hFl : F.length = M at *
         have HF := qh hFl
         clear hFl
         go_wp2_with (at_builtin; refine wpList_app rfl (.tmp 28) (.tmp 29) _ rfl w.heap.size 5 1 1 Tryz.underlying22 eU8 (.slice A' M c') M (u8s F) (by rfl) hown A1 n1 c1 (u8s l) (by rfl) hr1.toS (u8s_one _) (by omega) (by omega) hBr.size ?_)
         intro A2 c2 w2 hown2 hc2 hg2 hat2
         have hB2 : Below w.heap.size w w2 := hBr.grown hg2 hBr.size (fun g hg => (hown.lt g hg).1)
         rw [← u8s_append, ← HS'.out] at hown2
         clear hg2 hat2 hown
         go_wp2
         go_roundw
         case rel => exact ⟨j + 1, by omega, by go_num, A2, c2, by rw [HS.out], by rw [HS.out]; exact hc2, by rw [HS.out]; exact hown2, hB2⟩
         case measure => simp [intOf]; omega
       · have hkn : j = k := by omega
         subst hkn
         rw [List.take_of_length_le (by rw [HLL.out]; exact Nat.le_refl _)] at *
         go_wp2
         go_ret
         rw [HT.out] at *
         exact ⟨A', c', rfl, hc', hown, hBr⟩
theorem join_to (A : Option Addr) (n c : Nat) (ls : List (List UInt8)) (w : World) (h : RdB w A n ls) (hn : n ≤ 1073741824) (F : List UInt8) (N : Nat) (hF : ls.flatten = F) (hN : F.length = N) (hf : N ≤ 1073741824) :
   Calls Tryz.prog 42 #[.slice A n c] w fun e w' => ∃ A' c', e = .returned (.slice A' N c') ∧ N ≤ c' ∧ w'.ownsRow w.heap.size 5 1 (.slice A' N c') N (u8s F) ∧ Below w.heap.size w w' := by
 subst hF
 subst hN
 exact join_any A n c ls w h hn hf
end Go.Proofs.YtpgpaenloaphaaaGreat
namespace Go.Proofs.YtpgpaenloaphaaaGreat
open Go.RowKit
def beNat (l : List UInt8) : Nat := l.foldl (fun n c => n * 256 + c.toNat) 0
theorem beNat_snoc (l : List UInt8) (c : UInt8) : beNat (l ++ [c]) = beNat l * 256 + c.toNat := by simp [beNat]
theorem beNat_from (l : List UInt8) : ∀ n, l.foldl (fun n c => n * 256 + c.toNat) n = n * 256 ^ l.length + beNat l := by
 induction l with
 | nil => intro n; simp [beNat]
 | cons c l ih =>
   intro n
   have h1 := ih (n * 256 + c.toNat)
   have h2 := ih (0 * 256 + c.toNat)
   simp only [List.foldl_cons, List.length_cons, beNat] at h1 h2 ⊢
   rw [h1, h2, Nat.pow_succ, Nat.add_mul, Nat.zero_mul, Nat.zero_add, Nat.mul_assoc, Nat.mul_comm 256, Nat.add_assoc]
theorem beNat_cons (c : UInt8) (l : List UInt8) : beNat (c :: l) = c.toNat * 256 ^ l.length + beNat l := by
 have := beNat_from l (0 * 256 + c.toNat)
 rw [Nat.zero_mul, Nat.zero_add] at this
 rw [← this]
 simp [beNat]
theorem beNat_lt (l : List UInt8) : beNat l < 256 ^ l.length := by
 induction l with
 | nil => simp [beNat]
 | cons c l ih =>
   rw [beNat_cons, List.length_cons, Nat.pow_succ]
   have h := c.toNat_lt
   have : c.toNat * 256 ^ l.length ≤ 255 * 256 ^ l.length := Nat.mul_le_mul_right _ (by omega)
   omega
theorem or_byte (m : Nat) (x : UInt8) (h : m < 72057594037927936) : bits .or .u64 (IntKind.u64.wrap ((m : Int) * 256)) (IntKind.u64.wrap (x.toNat : Int)) = ((m * 256 + x.toNat : Nat) : Int) := by
 have hx := x.toNat_lt
 rw [show IntKind.u64.wrap ((m : Int) * 256) = ((m * 256 : Nat) : Int) from by rw [IntKind.wrap_u64]; omega, show IntKind.u64.wrap (x.toNat : Int) = ((x.toNat : Nat) : Int) from by rw [IntKind.wrap_u64]; omega,
   bits_or_u64_nat _ _ (by omega) (by omega)]
 have := Nat.two_pow_add_eq_or_of_lt (b := x.toNat) (i := 8) (by omega) m
 rw [Nat.mul_comm m 256]
 exact congrArg Int.ofNat (by simpa using this.symm)
theorem pow_le_56 {j k : Nat} (h : j < k) (h2 : k ≤ 8) : 256 ^ j ≤ 72057594037927936 := by
 have : 256 ^ j ≤ 256 ^ 7 := Nat.pow_le_pow_right (by omega) (by omega)
 simpa using this
set_option maxHeartbeats 400000 in
theorem valid_2 (n : Int) (h1 : 1 ≤ n) (h2 : n ≤ 8) (w : World) : Calls Tryz.prog 108 #[.int .i64 2, .int .i64 n] w fun e w' => e = .returned (.bool true) ∧ w = w' := by
 have e1 : decide (1 ≤ n) = true := by simpa using h1
 have e2 : decide (n ≤ 8) = true := by simpa using h2
 go_enter Tryz.func108, Tryz.ntmps108
 go_wp2
 go_ret
 exact ⟨by simp, rfl⟩
set_option maxHeartbeats 400000 in
theorem get_2 (A : Option Addr) (n c at_ k : Nat) (l : List UInt8) (w : World) (h : Rd w A n (u8s l)) (hn : n ≤ 140737488355328) (h1 : 1 ≤ k) (h2 : k ≤ 8) (h3 : at_ + k ≤ n) :
   Calls Tryz.prog 74 #[.int .i64 2, .slice A n c, .int .i64 at_, .int .i64 k] w fun e w' => e = .returned (.tuple #[.int .u64 (beNat ((l.drop at_).take k)), .int .i64 0]) ∧ w = w' := by
 have hl := h.len
 have HL := qh hl
 clear hl
 have e1 : decide ((at_ : Int) < 0) = false := by simp
 have e2 : decide ((n : Int) < (at_ : Int)) = false := by simp; omega
 have e3 : decide ((n : Int) - (at_ : Int) < (k : Int)) = false := by simp; omega
 go_enter Tryz.func74, Tryz.ntmps74
 go_wp2_with (go_at_call 108; refine (valid_2 _ (by omega) (by omega) _).mono ?_; rintro e w' ⟨rfl, rfl⟩)
 go_loop [10, 11] (fun m i => ∃ j : Nat, j ≤ k ∧ i = .int .i64 j ∧ m = .int .u64 (beNat ((l.drop at_).take j))) (fun _ i => k - (intOf i).toNat)
 case atStart => exact ⟨0, Nat.zero_le _, rfl, rfl⟩
 case round =>
   obtain ⟨j, hj, rfl, rfl⟩ := hrel
   by_cases hlt : j < k
   · obtain ⟨b, off, x, rfl, hb, HX, hc⟩ := h.u8 (k := at_ + j) (by omega)
     have hbd := beNat_lt ((l.drop at_).take j)
     have hs : beNat ((l.drop at_).take (j + 1)) = beNat ((l.drop at_).take j) * 256 + x.toNat := by
       rw [List.take_add_one, List.getElem?_drop, HX.out]; exact beNat_snoc _ _
     have HS := qh hs
     have HBD := qh hbd
     have i0 : (0 : Int) ≤ (at_ : Int) + (j : Int) := by omega
     have i1 : (at_ : Int) + (j : Int) < (n : Int) := by omega
     clear hs hbd
     generalize beNat ((l.drop at_).take j) = m at *
     have hm : m < 72057594037927936 := Nat.lt_of_lt_of_le HBD.out (Nat.le_trans (Nat.pow_le_pow_right (by omega) (List.length_take_le _ _)) (pow_le_56 hlt h2))
     have hor := or_byte m x hm
     have HO := qh hor
     clear hor HBD hm
     go_wp2
     go_round
     case rel => exact ⟨j + 1, by omega, by go_num, by rw [HO.out, HS.out]⟩
     case measure => simp [intOf]; omega
   · have : j = k := by omega
     subst this
     go_wp2
     go_ret2
     exact ⟨rfl, rfl⟩
theorem rget_step (j m : Nat) (x : UInt8) (hj : j ≤ 7) (hm : m < 256 ^ j) :
   IntKind.u64.wrap (((256 ^ j % 18446744073709551616 : Nat) : Int) * 256) = ((256 ^ (j + 1) % 18446744073709551616 : Nat) : Int) ∧
   IntKind.u64.wrap ((m : Int) + IntKind.u64.wrap (((256 ^ j % 18446744073709551616 : Nat) : Int) * IntKind.u64.wrap (x.toNat : Int))) = ((m + 256 ^ j * x.toNat : Nat) : Int) := by
 have hp : 256 ^ j ≤ 72057594037927936 := pow_le_56 (k := 8) (by omega) (by omega)
 have hx := x.toNat_lt
 rw [Nat.pow_succ]
 generalize 256 ^ j = P at *
 have hmul : P * x.toNat ≤ P * 255 := Nat.mul_le_mul_left _ (by omega)
 have e1 : P % 18446744073709551616 = P := Nat.mod_eq_of_lt (by omega)
 rw [e1]
 have e2 : IntKind.u64.wrap (x.toNat : Int) = (x.toNat : Int) := by rw [IntKind.wrap_u64]; omega
 rw [e2]
 have e3 : (P : Int) * (x.toNat : Int) = ((P * x.toNat : Nat) : Int) := by simp
 rw [e3]
 generalize P * x.toNat = Y at *
 constructor
 · rw [IntKind.wrap_u64]; omega
 · rw [IntKind.wrap_u64, IntKind.wrap_u64]; omega
end Go.Proofs.YtpgpaenloaphaaaGreat
