/- Part of the proof: Tah, Tai. -/
import Derived.Test.YtafjkbbiaopemaaGreatDoorTox34
import Derived.Test.YtafjkbbiaopemaaGreatDoorTox39
set_option linter.unusedVariables false
namespace Go.Proofs.YtafjkbbiaopemaaGreatDoor.Tr
section
variable {ts : List Lx.Tok}
theorem rrefL_p : ∀ (k : Nat) (l : List Rf) (s : RS), RP s (rrefLoop ts k l s).2
  | 0, _, s => RP.refl s
  | k + 1, l, s => by
    rw [rrefLoop]
    split
    · exact (rnx_p.trans (rname_p _)).trans (rrefL_p k _ _)
    · exact RP.refl s
theorem rroutes_p (many : Bool) (s : RS) : RP s (rroutes ts many s).2 := by
  unfold rroutes
  dsimp only
  split
  · exact (rname_p s).trans (rrefL_p _ _ _)
  · exact rname_p s
theorem rwith_p (T : ByteArray) (s : RS) : RP s (rwith ts T s).2 := by
  unfold rwith
  split
  · exact rnx_p.trans (rname_p _)
  · exact RP.refl s
theorem REX_p (s : RS) : RP s (REX ts s).2 := rexpr_p 14 s
theorem ratom14_p (s : RS) : RP s (ratom ts (rexpr ts 14) s).2 := ratom_p (fun s => rexpr_p 14 s) s
theorem rplace_p (s : RS) : RP s (rplace ts s).2 := by
  unfold rplace
  dsimp only
  refine (rname_p (ts := ts) s).trans ?_
  generalize (rname ts s).2 = q
  refine RP.trans (q := (if rIs ts m_at q then ratom ts (rexpr ts 14) (rnx q) else (zE, q)).2) ?_ ?_
  · split
    · exact rnx_p.trans (ratom14_p _)
    · exact RP.refl _
  · generalize (if rIs ts m_at q then ratom ts (rexpr ts 14) (rnx q) else (zE, q)).2 = r
    split
    · exact rnx_p.trans (ratom14_p _)
    · exact RP.refl _
theorem rplaceL_p : ∀ (k : Nat) (l : List Pl) (s : RS), RP s (rplaceLoop ts k l s).2
  | 0, _, s => RP.refl s
  | k + 1, l, s => by
    rw [rplaceLoop]
    split
    · exact RP.refl s
    · split
      · exact (rplace_p s).trans (rnx_p.trans (rplaceL_p k _ _))
      · exact rplace_p s
theorem rdecl_p (K : ByteArray) (s : RS) : RP s (rdecl ts K s).2 := by
  unfold rdecl
  dsimp only
  split
  · exact ((rname_p s).trans (rneed_p _ _)).trans ((REX_p _).trans (rneed_p _ _))
  · exact ((rname_p s).trans (rneed_p _ _)).trans ((rplaceL_p _ _ _).trans (rneed_p _ _))
section
variable {st : RS → St × RS} (hst : ∀ s, RP s (st s).2)
include hst
theorem rstmtsL_p : ∀ (k : Nat) (l : List St) (s : RS), RP s (rstmtsLoop ts st k l s).2
  | 0, _, s => RP.refl s
  | k + 1, l, s => by
    rw [rstmtsLoop]
    split
    · exact (hst s).trans (rstmtsL_p k _ _)
    · exact RP.refl s
theorem rstmts_p (s : RS) : RP s (rstmts ts st s).2 := rstmtsL_p hst _ _ _
def rbo (ts : List Lx.Tok) (s : RS) : RS := { rneed ts m_lbr (if rIs ts m_lbr s && s.bo == 12 then rstop ts 11 s else s) with bo := s.bo + 1 }
omit hst in
theorem rbo_eq (s : RS) : rbo ts s = { rneed ts m_lbr (if rIs ts m_lbr s && s.bo == 12 then rstop ts 11 s else s) with bo := (rneed ts m_lbr (if rIs ts m_lbr s && s.bo == 12 then rstop ts 11 s else s)).bo + 1 } := by
  unfold rbo
  rw [(rneed_pa _ _).2]
  split
  · rw [(rstop_pa _ _).2]
  · rfl
omit hst in
theorem rbo_pre (s : RS) : RP s (rneed ts m_lbr (if rIs ts m_lbr s && s.bo == 12 then rstop ts 11 s else s)) := by
  refine RP.trans ?_ (rneed_p m_lbr _)
  split
  · exact rstop_p _ _
  · exact RP.refl s
theorem rbody_eq (s : RS) : rbody ts st s = ((rstmts ts st (rbo ts s)).1, { rneed ts m_rbr (rstmts ts st (rbo ts s)).2 with bo := s.bo }) := by
  have h1 := (rstmts_p (ts := ts) hst (rbo ts s)).bo
  have h2 : (rbo ts s).bo = s.bo + 1 := rfl
  have h3 := (rneed_pa (ts := ts) m_rbr (rstmts ts st (rbo ts s)).2).2
  have h4 : rbody ts st s = ((rstmts ts st (rbo ts s)).1, { rneed ts m_rbr (rstmts ts st (rbo ts s)).2 with bo := (rneed ts m_rbr (rstmts ts st (rbo ts s)).2).bo - 1 }) := by
    rw [rbo_eq]; rfl
  rw [h4, h3, h1, h2, show s.bo + 1 - 1 = s.bo by omega]
theorem rbody_p (s : RS) : RP s (rbody ts st s).2 := by
  rw [rbody_eq hst]
  have h1 := rbo_pre (ts := ts) s
  have h2 := (rstmts_p (ts := ts) hst (rbo ts s)).trans (rneed_p (ts := ts) m_rbr _)
  refine ⟨rfl, fun hb => ?_, ?_, Nat.le_trans h1.le h2.le⟩
  · obtain ⟨h3, h4⟩ := h1.st hb
    obtain ⟨h5, h6⟩ := h2.st h3
    exact ⟨h5, h6.trans h4⟩
  · rcases h1.pa with h3 | ⟨h3, h4⟩
    · rcases h2.pa with h5 | ⟨h5, h6⟩
      · exact .inl (h5.trans h3)
      · exact .inr ⟨h5, h6.trans (by show (rneed ts m_lbr _).pa + 1 = _; rw [h3])⟩
    · obtain ⟨h5, h6⟩ := h2.st h3
      exact .inr ⟨h5, h6.trans h4⟩
theorem rels_p (s : RS) : RP s (if rIs ts k_else s then rbody ts st (rnx s) else ([], s)).2 := by
  split
  · exact rnx_p.trans (rbody_p hst _)
  · exact RP.refl s
theorem rstmtG_pn (s : RS) : RP (rnx s) (rstmtG ts st s).2 := by
  have E := fun s => REX_p (ts := ts) s
  have B := fun s => rbody_p (ts := ts) hst s
  have R := fun b s => rroutes_p (ts := ts) b s
  have W := fun T s => rwith_p (ts := ts) T s
  have N := fun T s => rneed_p (ts := ts) T s
  have M := fun s => rname_p (ts := ts) s
  unfold rstmtG
  dsimp only
  generalize ((rk ts s).at_ : Int) = at_
  generalize bytesOf (rk ts s).text = kd
  by_cases h_k_send : kd = k_send
  · rw [if_pos h_k_send]
    exact (((((E _).trans (N _ _)).trans (R _ _)).trans (W _ _)).trans (W _ _)).trans (N _ _)
  rw [if_neg h_k_send]
  by_cases h_k_split : kd = k_split
  · rw [if_pos h_k_split]
    exact ((((E _).trans (N _ _)).trans (R _ _)).trans (W _ _)).trans (N _ _)
  rw [if_neg h_k_split]
  by_cases h_k_retry : kd = k_retry
  · rw [if_pos h_k_retry]
    exact ((((((((E _).trans (N _ _)).trans (E _)).trans (N _ _)).trans (E _)).trans (N _ _)).trans (R _ _)).trans (W _ _)).trans (N _ _)
  rw [if_neg h_k_retry]
  by_cases h_k_cover : kd = k_cover
  · rw [if_pos h_k_cover]
    exact (R _ _).trans (N _ _)
  rw [if_neg h_k_cover]
  by_cases h_k_wait : kd = k_wait
  · rw [if_pos h_k_wait]
    exact (E _).trans (N _ _)
  rw [if_neg h_k_wait]
  by_cases h_k_block : kd = k_block
  · rw [if_pos h_k_block]
    exact (((M _).trans (N _ _)).trans (R _ _)).trans (N _ _)
  rw [if_neg h_k_block]
  by_cases h_k_every : kd = k_every
  · rw [if_pos h_k_every]
    exact (((((E _).trans (N _ _)).trans (E _)).trans (N _ _)).trans (R _ _)).trans (N _ _)
  rw [if_neg h_k_every]
  by_cases h_k_after : kd = k_after
  · rw [if_pos h_k_after]
    exact (E _).trans (B _)
  rw [if_neg h_k_after]
  by_cases h_k_repeat : kd = k_repeat
  · rw [if_pos h_k_repeat]
    exact ((M _).trans (E _)).trans (B _)
  rw [if_neg h_k_repeat]
  by_cases h_k_if : kd = k_if
  · rw [if_pos h_k_if]
    exact (((N _ _).trans (M _)).trans (B _)).trans (rels_p hst _)
  rw [if_neg h_k_if]
  exact N _ _
theorem rstmtG_p (s : RS) : RP s (rstmtG ts st s).2 := rnx_p.trans (rstmtG_pn hst s)
end
theorem rstmt_p : ∀ (d : Nat) (s : RS), RP s (rstmt ts d s).2
  | 0, s => rstop_p 9 s
  | d + 1, s => rstmtG_p (fun s => rstmt_p d s) s
theorem rbegins_lt (HT : Ends ts) {s : RS} (h : rbegins ts s = true) : s.i + 1 < ts.length := HT s.i (fun e => by
  unfold rbegins isOf rk at h
  rw [e] at h
  simp at h)
theorem rbegins_ok {s : RS} (h : rbegins ts s = true) : s.bad = false := by unfold rbegins at h; simp at h; exact h.1
theorem rbegins_in {s : RS} (h : rbegins ts s = true) : bytesOf (rk ts s).text ∈ ten := by
  unfold rbegins isOf at h
  simp only [Bool.and_eq_true] at h
  exact bmem_iff.1 h.2.2
end
end Go.Proofs.YtafjkbbiaopemaaGreatDoor.Tr
namespace Go.Proofs.YtafjkbbiaopemaaGreatDoor.Tr
open Go.RowKit
section
variable {gp : Nat} {A : Option Addr} {n c : Nat} {ts : List Lx.Tok} {s : RS} {w w' : World}
theorem RLo.mono {B B' : Nat} (h : RLo gp A B) (hB : B ≤ B') : RLo gp A B' := ⟨Nat.lt_of_lt_of_le h.1 hB, fun ad e => Nat.lt_of_lt_of_le (h.2 ad e) hB⟩
theorem RLo.all {B : Nat} (h : RLo gp A B) : ∀ x ∈ [gp], x ≤ B := by
  intro x hx
  have h2 := h.1
  simp only [List.mem_cons, List.not_mem_nil, or_false] at hx
  omega
theorem RLo.nin {B : Nat} (h : RLo gp A B) : ∀ x ∈ [gp], x < B := by
  intro x hx
  have h2 := h.1
  simp only [List.mem_cons, List.not_mem_nil, or_false] at hx
  omega
theorem Blk.wrR {g : Nat} {t : TypeId} {cs : List Value} {B : Nat} (h : Blk w g t cs) (hw : Wr [gp] w w') (hl : RLo gp A B) (hg : B ≤ g) : Blk w' g t cs := (hw.block g h.lt (by have h1 := hl.1; simp; omega)).trans h
theorem RSt.belowB {B : Nat} (h : RSt gp A n c ts s w) (hl : RLo gp A B) (hb : Below B w w') : RSt gp A n c ts s w' := ⟨h.b.below hb hl.1, RdS.belowB h.r hb hl.2, h.lt⟩
theorem RSt.setNew {B : Nat} (h : RSt gp A n c ts s w) (hl : RLo gp A B) {p : Addr} (hp : B ≤ p.block) (v : Value) : RSt gp A n c ts s (w.setCell p v) :=
  h.belowB hl ((Below.refl B w).setCell hp v)
end
section
structure RJn (gp : Nat) (A : Option Addr) (n c : Nat) (ts : List Lx.Tok) (w0 : World) (g : Nat) (p : Int) (l : List Ex) (sl : List (Option Addr × Nat)) (v : Value) (q : RS) (w : World) : Prop where
  st : RSt gp A n c ts q w
  wr : Wr [gp] w0 w
  z : Blk w w0.heap.size 39 zEc
  e : Blk w g 39 [.string k_join, .int .i64 0, .string zs, .int .i64 p, v]
  own : w.ownsRow (w0.heap.size + 1) 39 5 v l.length (zipC exC l sl)
  nl : sl.length = l.length
  ob : ∀ k, v.ownBlock = some k → k ≠ g
  ar : ∀ (i : Nat) (e : Ex) (a : Option Addr × Nat), l[i]? = some e → sl[i]? = some a → ArgsIn (Fj w0.heap.size g v) w a.1 e.args
  lt : w0.heap.size < g
  lo : RLo gp A w0.heap.size
section
variable {gp : Nat} {A : Option Addr} {n c : Nat} {ts : List Lx.Tok} {s q q' : RS} {w w' w0 : World} {g : Nat} {p : Int} {l : List Ex} {sl : List (Option Addr × Nat)} {v v' : Value} {X : Ex} {y : Option Addr × Nat}
theorem RJn.call (h : RJn gp A n c ts w0 g p l sl v q w) (hs : RSt gp A n c ts q' w') (hW : Wr [gp] w w') : RJn gp A n c ts w0 g p l sl v q' w' :=
  ⟨hs, h.wr.trans hW, Blk.wrR h.z hW h.lo (Nat.le_refl _), Blk.wrR h.e hW (h.lo.mono (Nat.le_of_lt h.lt)) (Nat.le_refl _),
    own_same h.own (fun k hk hlt _ => hW.block k hlt (fun hm => by have := h.lo.all k hm; omega)), h.nl, h.ob, fun i e a h1 h2 => (h.ar i e a h1 h2).keep (keep_fj_wr hW h.lo.all), h.lt, h.lo⟩
theorem RJn.fr (h : RJn gp A n c ts w0 g p l sl v q w) {B : Nat} (hB : w.heap.size ≤ B) {W : World} {B2 : Option Addr} {es : List Ex} (ha : ArgsIn (Fr B) W B2 es) : ArgsIn (Fj w0.heap.size g v) W B2 es :=
  ha.keep ⟨Nat.le_refl _, fun _ _ _ => rfl, fun k hk _ => by
    have h1 := h.e.lt
    have h2 := h.lt
    unfold Fr at hk
    refine ⟨by omega, by omega, fun e => ?_⟩
    have h3 := (h.own.lt k e).2
    omega⟩
theorem RJn.push (h : RJn gp A n c ts w0 g p l sl v q w) (hy : ArgsIn (Fj w0.heap.size g v) w y.1 X.args) {w5 : World} (hg : (w.alloc (.cells (exC X y).toArray 39)).grownBy w5 v.ownBlock)
    (ho : w5.ownsRow (w0.heap.size + 1) 39 5 v' (l.length + 1) (zipC exC l sl ++ exC X y)) (hat : v'.ownBlock = v.ownBlock ∨ v'.ownBlock = some (w.alloc (.cells (exC X y).toArray 39)).heap.size) :
    RJn gp A n c ts w0 g p (l ++ [X]) (sl ++ [y]) v' q (w5.setCell ⟨g, 4, none⟩ v') := by
  have hlt := h.lt
  have hgl := h.e.lt
  have hobg : ∀ k, v.ownBlock = some k → w0.heap.size + 1 ≤ k := fun k hk => (h.own.lt k hk).1
  have hobl : ∀ k, v.ownBlock = some k → k < w.heap.size := fun k hk => (h.own.lt k hk).2
  have hsz : (w.alloc (.cells (exC X y).toArray 39)).heap.size = w.heap.size + 1 := by simp
  have hsz5 : (w.alloc (.cells (exC X y).toArray 39)).heap.size ≤ w5.heap.size := hg.size
  have hB5 : Below (w0.heap.size + 1) w w5 := ((Below.refl _ w).alloc (by omega) _).grown hg (by omega) hobg
  have hB6 : Below (w0.heap.size + 1) w (w5.setCell ⟨g, 4, none⟩ v') := hB5.setCell (by exact hlt) v'
  have hob' : ∀ k, v'.ownBlock = some k → k ≠ g := by
    intro k hk
    rcases hat with h1 | h1
    · exact h.ob k (h1 ▸ hk)
    · rw [h1] at hk
      injection hk with hk
      omega
  have hK : Keep (Fj w0.heap.size g v) (Fj w0.heap.size g v') w (w5.setCell ⟨g, 4, none⟩ v') := by
    refine ⟨hB6.size, fun k hk hkl => ?_, fun k hk hkl => ⟨hk.1, hk.2.1, fun e => ?_⟩⟩
    · rw [Below.heap_setCell w5 ⟨g, 4, none⟩ v' k hk.2.1, hg.block k (by omega) hk.2.2.symm]
      exact Below.heap_alloc w _ k hkl
    · rcases hat with h1 | h1
      · exact hk.2.2 (h1 ▸ e)
      · rw [h1] at e
        injection e with e
        omega
  refine ⟨h.st.belowB (h.lo.mono (Nat.le_succ _)) hB6, h.wr.thenb (hB6.mono (Nat.le_succ _)), h.z.below hB6 (Nat.lt_succ_self _), ?_, ?_, by simp [h.nl], hob', ?_, h.lt, h.lo⟩
  · exact (((h.e.alloc _).grown hg (fun e => h.ob g e.symm rfl)).set_ 4 v')
  · rw [List.length_append, zipC_snoc exC l sl X y h.nl]
    exact own_same ho (fun k hk hkl e => Below.heap_setCell w5 ⟨g, 4, none⟩ v' k (hob' k e))
  · intro i e a h1 h2
    by_cases hi : i < l.length
    · rw [List.getElem?_append_left hi] at h1
      rw [List.getElem?_append_left (by rw [h.nl]; exact hi)] at h2
      exact (h.ar i e a h1 h2).keep hK
    · have hi2 : i = l.length := by
        have := (List.getElem?_eq_some_iff.1 h1).1
        simp at this
        omega
      subst hi2
      rw [List.getElem?_append_right (Nat.le_refl _), Nat.sub_self] at h1
      rw [← h.nl, List.getElem?_append_right (Nat.le_refl _), Nat.sub_self] at h2
      simp at h1 h2
      subst h1
      subst h2
      exact hy.keep hK
theorem ArgsIn.rjn {w0 : World} {p : Int} {l : List Ex} {sl : List (Option Addr × Nat)} {A1 : Option Addr} {c1 : Nat} (h : RJn gp A n c ts w0 g p l sl (.slice A1 l.length c1) q w) : ArgsIn (Fx w0.heap.size g) w A1 l := by
  refine .mk _ _ sl h.nl ⟨RdS.ofOwn3 h.own, fun hn ad e => ?_⟩ (fun i e a h1 h2 => (h.ar i e a h1 h2).keep ⟨Nat.le_refl _, fun _ _ _ => rfl, fun k hk _ => ⟨hk.1, hk.2.1⟩⟩)
  obtain ⟨b, off, e2, hb, _⟩ := (RdS.ofOwn3 h.own).2 hn
  subst e
  injection e2 with e2
  subst e2
  exact ⟨⟨(h.own.lt b rfl).1, h.ob b rfl⟩, own_fro h.own rfl⟩
end
end
section
structure RVi (gp : Nat) (A : Option Addr) (n c : Nat) (ts : List Lx.Tok) (w0 : World) (l : List Rf) (v : Value) (q : RS) (w : World) : Prop where
  st : RSt gp A n c ts q w
  wr : Wr [gp] w0 w
  own : w.ownsRow w0.heap.size 36 2 v l.length (l.flatMap rfC)
  lo : RLo gp A w0.heap.size
section
variable {gp : Nat} {A : Option Addr} {n c : Nat} {ts : List Lx.Tok} {s q q' : RS} {w w' w0 : World} {l : List Rf} {v v' : Value} {X : Rf}
theorem RVi.call (h : RVi gp A n c ts w0 l v q w) (hs : RSt gp A n c ts q' w') (hW : Wr [gp] w w') : RVi gp A n c ts w0 l v q' w' :=
  ⟨hs, h.wr.trans hW, own_same h.own (fun k hk hlt _ => hW.block k hlt (fun hm => by
    have h1 := h.lo.1
    simp only [List.mem_cons, List.not_mem_nil, or_false] at hm
    omega)), h.lo⟩
theorem RVi.push (h : RVi gp A n c ts w0 l v q w) {w5 : World} (hg : (w.alloc (.cells (rfC X).toArray 36)).grownBy w5 v.ownBlock)
    (ho : w5.ownsRow w0.heap.size 36 2 v' (l.length + 1) (l.flatMap rfC ++ rfC X)) : RVi gp A n c ts w0 (l ++ [X]) v' q w5 := by
  have hB5 : Below w0.heap.size w w5 := ((Below.refl _ w).alloc h.wr.size _).grown hg (Nat.le_trans h.wr.size (by simp)) (fun k hk => (h.own.lt k hk).1)
  refine ⟨h.st.belowB h.lo hB5, h.wr.thenb hB5, ?_, h.lo⟩
  rw [List.length_append, List.flatMap_append]
  simpa using ho
theorem RVi.fin (h : RVi gp A n c ts w0 l v q w) : ∃ A' c', v = .slice A' l.length c' ∧ RfsIn (Fr w0.heap.size) w A' l := by
  obtain ⟨A', c', rfl, hc⟩ := own_form h.own
  refine ⟨A', c', rfl, RdS.ofOwn3 h.own, fun hn ad e => ?_⟩
  subst e
  have h5 := h.own
  rcases h5.2 with ⟨h6, h0⟩ | ⟨g, cap, cur, hv, hb, _⟩
  · omega
  · injection hv with hA
    injection hA with hA
    subst hA
    exact ⟨hb, own_fro h5 rfl⟩
end
end
section
structure RLn (gp gt : Nat) (A : Option Addr) (n c : Nat) (ts : List Lx.Tok) (w0 : World) (T : St) (p : StA) (q : RS) (w : World) : Prop where
  st : RSt gp A n c ts q w
  wr : Wr [gp, gt] w0 w
  e : Blk w gt 42 (stC T p)
  ar : StIn (Fr w0.heap.size) w T p
  lo : RLo gp A gt
  lt : gt < w0.heap.size
section
variable {gp gt : Nat} {A : Option Addr} {n c : Nat} {ts : List Lx.Tok} {s q q' : RS} {w w' w0 : World} {T T' : St} {p p' : StA}
theorem RLn.call (h : RLn gp gt A n c ts w0 T p q w) (hs : RSt gp A n c ts q' w') (hW : Wr [gp] w w') : RLn gp gt A n c ts w0 T p q' w' :=
  ⟨hs, h.wr.trans (hW.mono (fun g hg => by simp only [List.mem_cons, List.not_mem_nil, or_false] at hg ⊢; omega)), Blk.wrR h.e hW h.lo (Nat.le_refl _),
    h.ar.keepw hW (fun g hg => by have := h.lo.1; have := h.lt; simp only [List.mem_cons, List.not_mem_nil, or_false] at hg; omega), h.lo, h.lt⟩
theorem RLn.put (h : RLn gp gt A n c ts w0 T p q w) (ho : Only w w' gt) (hb : Blk w' gt 42 (stC T' p')) (ha : StIn (Fr w0.heap.size) w T' p') : RLn gp gt A n c ts w0 T' p' q w' :=
  ⟨h.st.only h.lo (Nat.le_refl _) ho, h.wr.trans (Wr.onlyg ho (by simp)), hb, ha.keepw (Wr.onlyg (L := [gt]) ho (by simp)) (fun g hg => by simp only [List.mem_cons, List.not_mem_nil, or_false] at hg; rw [hg]; exact h.lt), h.lo, h.lt⟩
theorem RLn.one (h : RLn gp gt A n c ts w0 T p q w) (i : Nat) (v : Value) (hb : (stC T p).set i v = stC T' p') (ha : StIn (Fr w0.heap.size) w T' p') : RLn gp gt A n c ts w0 T' p' q (w.setCell ⟨gt, i, none⟩ v) :=
  h.put (Only.of_setCells w gt i [v]) (hb ▸ h.e.set_ i v) ha
theorem ArgsIn.rup (h : RLn gp gt A n c ts w0 T p q w) {W : World} {B : Option Addr} {es : List Ex} (ha : ArgsIn (Fr w.heap.size) W B es) : ArgsIn (Fr w0.heap.size) W B es := ha.keep (keep_low h.wr.size)
theorem RfsIn.rup (h : RLn gp gt A n c ts w0 T p q w) {W : World} {B : Option Addr} {l : List Rf} (ha : RfsIn (Fr w.heap.size) W B l) : RfsIn (Fr w0.heap.size) W B l := ha.keep (keep_low h.wr.size)
theorem RLn.al (h : RLn gp gt A n c ts w0 T p q w) (o : Obj) : RLn gp gt A n c ts w0 T p q (w.alloc o) := h.call (h.st.alloc o) ((Wr.refl _ _).alloc o)
end
section
variable {gp gt : Nat} {A : Option Addr} {n c : Nat} {ts : List Lx.Tok} {s q q' : RS} {w w' w'' w6 : World} {T T' : St} {p p' : StA}
theorem Wr.newr (h1 : Wr [gp] w w6) (h2 : Wr [gp, gt] w6 w') (hg : w.heap.size ≤ gt) : Wr [gp] w w' :=
  ⟨h2.os.trans h1.os, h2.tape.trans h1.tape, h2.output.trans h1.output, Nat.le_trans h1.size h2.size, fun k hk hne =>
    (h2.block k (Nat.lt_of_lt_of_le hk h1.size) (fun hm => by simp only [List.mem_cons, List.not_mem_nil, or_false] at hm hne; omega)).trans (h1.block k hk hne)⟩
theorem RStE (hL : RLn gp gt A n c ts w6 T p q w') (h6 : Wr [gp] w w6) (hgt : w.heap.size < gt) (hlo : RLo gp A w.heap.size) (ho : Only w' w'' w.heap.size) :
    StIn (Fr w.heap.size) w'' T p ∧ RSt gp A n c ts q w'' ∧ Wr [gp] w w'' :=
  ⟨(hL.ar.keep (keep_wr (Wr.onlyg (L := [w.heap.size]) ho (by simp)) (fun g hg => by simp only [List.mem_cons, List.not_mem_nil, or_false] at hg; have := hL.lt; omega) (Nat.le_refl _))).keep (keep_low h6.size),
    hL.st.only hlo (Nat.le_refl _) ho, ⟨ho.grown.os.trans (Wr.newr h6 hL.wr (Nat.le_of_lt hgt)).os, ho.grown.tape.trans (Wr.newr h6 hL.wr (Nat.le_of_lt hgt)).tape, ho.grown.output.trans (Wr.newr h6 hL.wr (Nat.le_of_lt hgt)).output, Nat.le_trans (Wr.newr h6 hL.wr (Nat.le_of_lt hgt)).size ho.grown.size, fun k hk hne =>
      (ho.grown.block k (Nat.lt_of_lt_of_le hk (Wr.newr h6 hL.wr (Nat.le_of_lt hgt)).size) (fun e => by injection e with e; omega)).trans ((Wr.newr h6 hL.wr (Nat.le_of_lt hgt)).block k hk hne)⟩⟩
theorem RLn.res (hL : RLn gp gt A n c ts w6 T p q w') {t : TypeId} {cs : List Value} (hb : Blk w6 w.heap.size t cs) (hgt : w.heap.size < gt) (hlo : RLo gp A w.heap.size) : Blk w' w.heap.size t cs :=
  (hL.wr.block _ hb.lt (fun hm => by have h1 := hlo.1; simp only [List.mem_cons, List.not_mem_nil, or_false] at hm; omega)).trans hb
end
end
section
structure RBd (gp : Nat) (A : Option Addr) (n c : Nat) (ts : List Lx.Tok) (w0 : World) (l : List St) (sl : List StA) (v : Value) (q : RS) (w : World) : Prop where
  st : RSt gp A n c ts q w
  wr : Wr [gp] w0 w
  own : w.ownsRow w0.heap.size 42 26 v l.length (zipC stC l sl)
  nl : sl.length = l.length
  ar : ∀ (i : Nat) (s : St) (p : StA), l[i]? = some s → sl[i]? = some p → StIn (Fv w0.heap.size v) w s p
  lo : RLo gp A w0.heap.size
section
variable {gp : Nat} {A : Option Addr} {n c : Nat} {ts : List Lx.Tok} {s q q' : RS} {w w' w0 : World} {l : List St} {sl : List StA} {v v' : Value} {X : St} {y : StA}
theorem RBd.call (h : RBd gp A n c ts w0 l sl v q w) (hs : RSt gp A n c ts q' w') (hW : Wr [gp] w w') : RBd gp A n c ts w0 l sl v q' w' :=
  ⟨hs, h.wr.trans hW, own_same h.own (fun k hk hlt _ => hW.block k hlt (fun hm => by have := h.lo.nin k hm; omega)), h.nl,
    fun i s p h1 h2 => (h.ar i s p h1 h2).keep (hW.keep _ _ (fun k hk _ hm => by have h5 := h.lo.nin k hm; have h6 := hk.1; omega) (fun _ h _ => h)), h.lo⟩
theorem RBd.fr (h : RBd gp A n c ts w0 l sl v q w) {B : Nat} (hB : w.heap.size ≤ B) {W : World} {T : St} {p : StA} (ha : StIn (Fr B) W T p) : StIn (Fv w0.heap.size v) W T p :=
  ha.keep ⟨Nat.le_refl _, fun _ _ _ => rfl, fun k hk _ => ⟨by have := h.wr.size; unfold Fr at hk; omega, fun e => by have := (h.own.lt k e).2; unfold Fr at hk; omega⟩⟩
theorem RBd.push (h : RBd gp A n c ts w0 l sl v q w) (hy : StIn (Fv w0.heap.size v) w X y) {w5 : World} (hg : (w.alloc (.cells (stC X y).toArray 42)).grownBy w5 v.ownBlock)
    (ho : w5.ownsRow w0.heap.size 42 26 v' (l.length + 1) (zipC stC l sl ++ stC X y)) (hat : v'.ownBlock = v.ownBlock ∨ v'.ownBlock = some (w.alloc (.cells (stC X y).toArray 42)).heap.size) :
    RBd gp A n c ts w0 (l ++ [X]) (sl ++ [y]) v' q w5 := by
  have hB5 : Below w0.heap.size w w5 := ((Below.refl _ w).alloc h.wr.size _).grown hg (Nat.le_trans h.wr.size (by simp)) (fun k hk => (h.own.lt k hk).1)
  have hK : Keep (Fv w0.heap.size v) (Fv w0.heap.size v') w w5 := by
    refine ⟨hB5.size, fun k hk hkl => ?_, fun k hk hkl => ⟨hk.1, fun e => ?_⟩⟩
    · rw [hg.block k (by simp; omega) hk.2.symm]
      exact Below.heap_alloc w _ k hkl
    · rcases hat with h1 | h1
      · exact hk.2 (h1 ▸ e)
      · rw [h1] at e
        injection e with e
        simp at e
        omega
  refine ⟨h.st.belowB h.lo hB5, h.wr.thenb hB5, ?_, by simp [h.nl], fun i s p h1 h2 => ?_, h.lo⟩
  · rw [List.length_append, zipC_snoc stC l sl X y h.nl]
    exact ho
  · rcases Nat.lt_or_ge i l.length with hi | hi
    · rw [List.getElem?_append_left hi] at h1
      rw [List.getElem?_append_left (by rw [h.nl]; exact hi)] at h2
      exact (h.ar i s p h1 h2).keep hK
    · have hi0 : i = l.length := by
        have := (List.getElem?_eq_some_iff.1 h1).1
        simp at this
        omega
      subst hi0
      simp at h1
      rw [← h.nl] at h2
      simp at h2
      subst h1 h2
      exact hy.keep hK
theorem RBd.fin (h : RBd gp A n c ts w0 l sl v q w) : ∃ A' c', v = .slice A' l.length c' ∧ BodyIn (Fr w0.heap.size) w A' l := by
  obtain ⟨A', c', rfl, hc⟩ := own_form h.own
  have hK : Keep (Fv w0.heap.size (.slice A' l.length c')) (Fr w0.heap.size) w w := ⟨Nat.le_refl _, fun _ _ _ => rfl, fun k hk _ => hk.1⟩
  refine ⟨A', c', rfl, .mk A' l sl h.nl ⟨RdS.ofOwn3 h.own, fun hn ad e => ?_⟩ (fun i s p h1 h2 => ((h.ar i s p h1 h2).keep hK).1) (fun i s p h1 h2 => ((h.ar i s p h1 h2).keep hK).2.1) (fun i s p h1 h2 => ((h.ar i s p h1 h2).keep hK).2.2)⟩
  subst e
  have h5 := h.own
  rcases h5.2 with ⟨h6, h0⟩ | ⟨g, cap, cur, hv, hb, _⟩
  · omega
  · injection hv with hA
    injection hA with hA
    subst hA
    exact ⟨hb, own_fro h5 rfl⟩
end
end
section
structure RPc (gp gt : Nat) (A : Option Addr) (n c : Nat) (ts : List Lx.Tok) (w0 : World) (T : Pl) (p : plA) (q : RS) (w : World) : Prop where
  st : RSt gp A n c ts q w
  wr : Wr [gp] w0 w
  z : Blk w w0.heap.size 80 (plC zPl pl0)
  e : Blk w gt 80 (plC T p)
  ar : PlIn (Fx w0.heap.size gt) w T p
  lo : RLo gp A w0.heap.size
  gl : w0.heap.size < gt
section
variable {gp gt : Nat} {A : Option Addr} {n c : Nat} {ts : List Lx.Tok} {s q q' : RS} {w w' w0 : World} {T T' : Pl} {p p' : plA}
theorem RPc.call (h : RPc gp gt A n c ts w0 T p q w) (hs : RSt gp A n c ts q' w') (hW : Wr [gp] w w') : RPc gp gt A n c ts w0 T p q' w' :=
  ⟨hs, h.wr.trans hW, Blk.wrR h.z hW h.lo (Nat.le_refl _), Blk.wrR h.e hW h.lo (Nat.le_of_lt h.gl), h.ar.keep (keep_fxwr hW h.lo.all), h.lo, h.gl⟩
theorem RPc.put (h : RPc gp gt A n c ts w0 T p q w) (ho : Only w w' gt) (hb : Blk w' gt 80 (plC T' p')) (ha : PlIn (Fx w0.heap.size gt) w T' p') : RPc gp gt A n c ts w0 T' p' q w' :=
  ⟨h.st.only (h.lo.mono (Nat.le_of_lt h.gl)) (Nat.le_refl _) ho, Wr.newL h.wr (Wr.onlyg (L := [gt]) ho (by simp)) (fun g hg => .inr (by simp at hg; have := h.gl; omega)), ho.blk h.z (by have := h.gl; omega), hb,
    ha.keep ((Wr.onlyg (L := [gt]) ho (by simp)).keep _ _ (fun k hk _ hm => hk.2 (by simpa using hm)) (fun _ h _ => h)), h.lo, h.gl⟩
theorem RPc.fr (h : RPc gp gt A n c ts w0 T p q w) {W : World} {B : Option Addr} {es : List Ex} (ha : ArgsIn (Fr w.heap.size) W B es) : ArgsIn (Fx w0.heap.size gt) W B es :=
  ha.keep ⟨Nat.le_refl _, fun _ _ _ => rfl, fun k hk _ => ⟨by have := h.e.lt; have := h.gl; unfold Fr at hk; omega, by have := h.e.lt; unfold Fr at hk; omega⟩⟩
theorem RPc.fin (h : RPc gp gt A n c ts w0 T p q w) (ho : Only w w' w0.heap.size) : PlIn (Fr w0.heap.size) w' T p ∧ RSt gp A n c ts q w' ∧ Wr [gp] w0 w' :=
  ⟨(h.ar.keep ((Wr.onlyg (L := [w0.heap.size]) ho (by simp)).keep (Fx w0.heap.size gt) (Fx w0.heap.size gt) (fun k hk _ hm => by simp only [List.mem_cons, List.not_mem_nil, or_false] at hm; have := hk.1; omega) (fun _ h _ => h))).keep keep_fxfr,
    h.st.only h.lo (Nat.le_refl _) ho, Wr.newL h.wr (Wr.onlyg (L := [w0.heap.size]) ho (by simp)) (fun g hg => .inr (by simp at hg; omega))⟩
end
end
section
structure RDl (gp : Nat) (A : Option Addr) (n c : Nat) (ts : List Lx.Tok) (w0 : World) (g : Nat) (K : ByteArray) (N : Rf) (l : List Pl) (sl : List plA) (v : Value) (q : RS) (w : World) : Prop where
  st : RSt gp A n c ts q w
  wr : Wr [gp] w0 w
  z : Blk w w0.heap.size 45 (dcC zDc pl0)
  e : Blk w g 45 (dlC K N v)
  own : w.ownsRow (w0.heap.size + 1) 80 12 v l.length (zipC plC l sl)
  nl : sl.length = l.length
  ob : ∀ k, v.ownBlock = some k → k ≠ g
  ar : ∀ (i : Nat) (e : Pl) (a : plA), l[i]? = some e → sl[i]? = some a → PlIn (Fj w0.heap.size g v) w e a
  lt : w0.heap.size < g
  lo : RLo gp A w0.heap.size
section
variable {gp : Nat} {A : Option Addr} {n c : Nat} {ts : List Lx.Tok} {s q q' : RS} {w w' w0 : World} {g : Nat} {K : ByteArray} {N : Rf} {l : List Pl} {sl : List plA} {v v' : Value} {X : Pl} {y : plA}
theorem RDl.call (h : RDl gp A n c ts w0 g K N l sl v q w) (hs : RSt gp A n c ts q' w') (hW : Wr [gp] w w') : RDl gp A n c ts w0 g K N l sl v q' w' :=
  ⟨hs, h.wr.trans hW, Blk.wrR h.z hW h.lo (Nat.le_refl _), Blk.wrR h.e hW (h.lo.mono (Nat.le_of_lt h.lt)) (Nat.le_refl _),
    own_same h.own (fun k hk hlt _ => hW.block k hlt (fun hm => by have := h.lo.all k hm; omega)), h.nl, h.ob, fun i e a h1 h2 => (h.ar i e a h1 h2).keep (keep_fj_wr hW h.lo.all), h.lt, h.lo⟩
theorem RDl.fr (h : RDl gp A n c ts w0 g K N l sl v q w) {B : Nat} (hB : w.heap.size ≤ B) {W : World} (ha : PlIn (Fr B) W X y) : PlIn (Fj w0.heap.size g v) W X y :=
  ha.keep ⟨Nat.le_refl _, fun _ _ _ => rfl, fun k hk _ => by
    have h1 := h.e.lt
    have h2 := h.lt
    unfold Fr at hk
    refine ⟨by omega, by omega, fun e => ?_⟩
    have h3 := (h.own.lt k e).2
    omega⟩
theorem RDl.push (h : RDl gp A n c ts w0 g K N l sl v q w) (hy : PlIn (Fj w0.heap.size g v) w X y) {w5 : World} (hg : (w.alloc (.cells (plC X y).toArray 80)).grownBy w5 v.ownBlock)
    (ho : w5.ownsRow (w0.heap.size + 1) 80 12 v' (l.length + 1) (zipC plC l sl ++ plC X y)) (hat : v'.ownBlock = v.ownBlock ∨ v'.ownBlock = some (w.alloc (.cells (plC X y).toArray 80)).heap.size) :
    RDl gp A n c ts w0 g K N (l ++ [X]) (sl ++ [y]) v' q (w5.setCell ⟨g, 8, none⟩ v') := by
  have hlt := h.lt
  have hgl := h.e.lt
  have hobg : ∀ k, v.ownBlock = some k → w0.heap.size + 1 ≤ k := fun k hk => (h.own.lt k hk).1
  have hobl : ∀ k, v.ownBlock = some k → k < w.heap.size := fun k hk => (h.own.lt k hk).2
  have hsz : (w.alloc (.cells (plC X y).toArray 80)).heap.size = w.heap.size + 1 := by simp
  have hsz5 : (w.alloc (.cells (plC X y).toArray 80)).heap.size ≤ w5.heap.size := hg.size
  have hB5 : Below (w0.heap.size + 1) w w5 := ((Below.refl _ w).alloc (by omega) _).grown hg (by omega) hobg
  have hB6 : Below (w0.heap.size + 1) w (w5.setCell ⟨g, 8, none⟩ v') := hB5.setCell (by exact hlt) v'
  have hob' : ∀ k, v'.ownBlock = some k → k ≠ g := by
    intro k hk
    rcases hat with h1 | h1
    · exact h.ob k (h1 ▸ hk)
    · rw [h1] at hk
      injection hk with hk
      omega
  have hK : Keep (Fj w0.heap.size g v) (Fj w0.heap.size g v') w (w5.setCell ⟨g, 8, none⟩ v') := by
    refine ⟨hB6.size, fun k hk hkl => ?_, fun k hk hkl => ⟨hk.1, hk.2.1, fun e => ?_⟩⟩
    · rw [Below.heap_setCell w5 ⟨g, 8, none⟩ v' k hk.2.1, hg.block k (by omega) hk.2.2.symm]
      exact Below.heap_alloc w _ k hkl
    · rcases hat with h1 | h1
      · exact hk.2.2 (h1 ▸ e)
      · rw [h1] at e
        injection e with e
        omega
  refine ⟨h.st.belowB (h.lo.mono (Nat.le_succ _)) hB6, h.wr.thenb (hB6.mono (Nat.le_succ _)), h.z.below hB6 (Nat.lt_succ_self _), ?_, ?_, by simp [h.nl], hob', ?_, h.lt, h.lo⟩
  · exact (((h.e.alloc _).grown hg (fun e => h.ob g e.symm rfl)).set_ 8 v')
  · rw [List.length_append, zipC_snoc plC l sl X y h.nl]
    exact own_same ho (fun k hk hkl e => Below.heap_setCell w5 ⟨g, 8, none⟩ v' k (hob' k e))
  · intro i e a h1 h2
    by_cases hi : i < l.length
    · rw [List.getElem?_append_left hi] at h1
      rw [List.getElem?_append_left (by rw [h.nl]; exact hi)] at h2
      exact (h.ar i e a h1 h2).keep hK
    · have hi2 : i = l.length := by
        have := (List.getElem?_eq_some_iff.1 h1).1
        simp at this
        omega
      subst hi2
      rw [List.getElem?_append_right (Nat.le_refl _), Nat.sub_self] at h1
      rw [← h.nl, List.getElem?_append_right (Nat.le_refl _), Nat.sub_self] at h2
      simp at h1 h2
      subst h1 h2
      exact hy.keep hK
theorem RDl.fin {A1 : Option Addr} {c1 : Nat} (h : RDl gp A n c ts w0 g K N l sl (.slice A1 l.length c1) q w) (ho : Only w w' w0.heap.size) : DcIn (Fr w0.heap.size) w' ⟨K, N, zE, l⟩ ((none, 0), (A1, c1)) ∧ RSt gp A n c ts q w' ∧ Wr [gp] w0 w' := by
  have hK : Keep (Fj w0.heap.size g (.slice A1 l.length c1)) (Fr w0.heap.size) w w' := (Wr.onlyg (L := [w0.heap.size]) ho (by simp)).keep _ _ (fun k hk _ hm => by simp only [List.mem_cons, List.not_mem_nil, or_false] at hm; have := hk.1; omega) (fun k hk _ => Nat.le_of_lt hk.1)
  have hr : RdF (fun k => w0.heap.size < k) 12 w A1 l.length (zipC plC l sl) := ⟨RdS.ofOwn3 h.own, fun hn ad e => by
    obtain ⟨b, off, e2, hb, _⟩ := (RdS.ofOwn3 h.own).2 hn
    subst e
    injection e2 with e2
    subst e2
    exact ⟨(h.own.lt b rfl).1, own_fro h.own rfl⟩⟩
  refine ⟨⟨ArgsIn.nil _ _ _, sl, h.nl, hr.keep ((Wr.onlyg (L := [w0.heap.size]) ho (by simp)).keep (fun k => w0.heap.size < k) (Fr w0.heap.size) (fun k hk _ hm => by simp only [List.mem_cons, List.not_mem_nil, or_false] at hm; omega) (fun k hk _ => Nat.le_of_lt hk)), fun i s p h1 h2 => (h.ar i s p h1 h2).keep hK⟩, h.st.only h.lo (Nat.le_refl _) ho, Wr.newL h.wr (Wr.onlyg (L := [w0.heap.size]) ho (by simp)) (fun g hg => .inr (by simp at hg; omega))⟩
end
end
section
structure RDe (gp gt : Nat) (A : Option Addr) (n c : Nat) (ts : List Lx.Tok) (w0 : World) (T : Dc) (p : plA) (q : RS) (w : World) : Prop where
  st : RSt gp A n c ts q w
  wr : Wr [gp] w0 w
  z : Blk w w0.heap.size 45 (dcC zDc pl0)
  e : Blk w gt 45 (dcC T p)
  ar : DcIn (Fx w0.heap.size gt) w T p
  lo : RLo gp A w0.heap.size
  gl : w0.heap.size < gt
section
variable {gp gt : Nat} {A : Option Addr} {n c : Nat} {ts : List Lx.Tok} {s q q' : RS} {w w' w0 : World} {T T' : Dc} {p p' : plA}
theorem RDe.call (h : RDe gp gt A n c ts w0 T p q w) (hs : RSt gp A n c ts q' w') (hW : Wr [gp] w w') : RDe gp gt A n c ts w0 T p q' w' :=
  ⟨hs, h.wr.trans hW, Blk.wrR h.z hW h.lo (Nat.le_refl _), Blk.wrR h.e hW h.lo (Nat.le_of_lt h.gl), h.ar.keep (keep_fxwr hW h.lo.all), h.lo, h.gl⟩
theorem RDe.put (h : RDe gp gt A n c ts w0 T p q w) (ho : Only w w' gt) (hb : Blk w' gt 45 (dcC T' p')) (ha : DcIn (Fx w0.heap.size gt) w T' p') : RDe gp gt A n c ts w0 T' p' q w' :=
  ⟨h.st.only (h.lo.mono (Nat.le_of_lt h.gl)) (Nat.le_refl _) ho, Wr.newL h.wr (Wr.onlyg (L := [gt]) ho (by simp)) (fun g hg => .inr (by simp at hg; have := h.gl; omega)), ho.blk h.z (by have := h.gl; omega), hb,
    ha.keep ((Wr.onlyg (L := [gt]) ho (by simp)).keep _ _ (fun k hk _ hm => hk.2 (by simpa using hm)) (fun _ h _ => h)), h.lo, h.gl⟩
theorem RDe.fr (h : RDe gp gt A n c ts w0 T p q w) {W : World} {B : Option Addr} {es : List Ex} (ha : ArgsIn (Fr w.heap.size) W B es) : ArgsIn (Fx w0.heap.size gt) W B es :=
  ha.keep ⟨Nat.le_refl _, fun _ _ _ => rfl, fun k hk _ => ⟨by have := h.e.lt; have := h.gl; unfold Fr at hk; omega, by have := h.e.lt; unfold Fr at hk; omega⟩⟩
theorem RDe.fin (h : RDe gp gt A n c ts w0 T p q w) (ho : Only w w' w0.heap.size) : DcIn (Fr w0.heap.size) w' T p ∧ RSt gp A n c ts q w' ∧ Wr [gp] w0 w' :=
  ⟨(h.ar.keep ((Wr.onlyg (L := [w0.heap.size]) ho (by simp)).keep (Fx w0.heap.size gt) (Fx w0.heap.size gt) (fun k hk _ hm => by simp only [List.mem_cons, List.not_mem_nil, or_false] at hm; have := hk.1; omega) (fun _ h _ => h))).keep keep_fxfr,
    h.st.only h.lo (Nat.le_refl _) ho, Wr.newL h.wr (Wr.onlyg (L := [w0.heap.size]) ho (by simp)) (fun g hg => .inr (by simp at hg; omega))⟩
end
end
section
structure RDp (gp G : Nat) (A : Option Addr) (n c : Nat) (ts : List Lx.Tok) (w0 : World) (l : List Dc) (sl : List plA) (v : Value) (q : RS) (w : World) : Prop where
  st : RSt gp A n c ts q w
  wr : Wr [gp, G] w0 w
  e : Blk w G 26 [v, .slice none 0 0]
  own : w.ownsRow w0.heap.size 45 9 v l.length (zipC dcC l sl)
  nl : sl.length = l.length
  ar : ∀ (i : Nat) (s : Dc) (p : plA), l[i]? = some s → sl[i]? = some p → DcIn (Fv w0.heap.size v) w s p
  lo : RLo gp A G
  lt : G < w0.heap.size
section
variable {gp G : Nat} {A : Option Addr} {n c : Nat} {ts : List Lx.Tok} {s q q' : RS} {w w' w0 : World} {l : List Dc} {sl : List plA} {v v' : Value} {X : Dc} {y : plA}
theorem RDp.nin (h : RDp gp G A n c ts w0 l sl v q w) : ∀ x ∈ [gp, G], x < w0.heap.size := by
  intro x hx
  have h1 := h.lo.1
  have h3 := h.lt
  simp only [List.mem_cons, List.not_mem_nil, or_false] at hx
  omega
theorem RDp.call (h : RDp gp G A n c ts w0 l sl v q w) (hs : RSt gp A n c ts q' w') (hW : Wr [gp] w w') : RDp gp G A n c ts w0 l sl v q' w' := by
  have hW3 : Wr [gp, G] w w' := hW.mono (fun g hg => by simp only [List.mem_cons, List.not_mem_nil, or_false] at hg ⊢; omega)
  exact ⟨hs, h.wr.trans hW3, Blk.wrR h.e hW h.lo (Nat.le_refl _), own_same h.own (fun k hk hlt _ => hW3.block k hlt (fun hm => by have := h.nin k hm; omega)), h.nl,
    fun i s p h1 h2 => (h.ar i s p h1 h2).keep (hW3.keep _ _ (fun k hk _ hm => by have h5 := h.nin k hm; have h6 := hk.1; omega) (fun _ h _ => h)), h.lo, h.lt⟩
theorem RDp.fr (h : RDp gp G A n c ts w0 l sl v q w) {B : Nat} (hB : w.heap.size ≤ B) {W : World} {T : Dc} {p : plA} (ha : DcIn (Fr B) W T p) : DcIn (Fv w0.heap.size v) W T p :=
  ha.keep ⟨Nat.le_refl _, fun _ _ _ => rfl, fun k hk _ => ⟨by have := h.wr.size; unfold Fr at hk; omega, fun e => by have := (h.own.lt k e).2; unfold Fr at hk; omega⟩⟩
theorem RDp.push (h : RDp gp G A n c ts w0 l sl v q w) (hy : DcIn (Fv w0.heap.size v) w X y) {w5 : World} (hg : (w.alloc (.cells (dcC X y).toArray 45)).grownBy w5 v.ownBlock)
    (ho : w5.ownsRow w0.heap.size 45 9 v' (l.length + 1) (zipC dcC l sl ++ dcC X y)) (hat : v'.ownBlock = v.ownBlock ∨ v'.ownBlock = some (w.alloc (.cells (dcC X y).toArray 45)).heap.size) :
    RDp gp G A n c ts w0 (l ++ [X]) (sl ++ [y]) v' q (w5.setCell ⟨G, 0, none⟩ v') := by
  have hlt := h.lt
  have hobl : ∀ k, v.ownBlock = some k → w0.heap.size ≤ k ∧ k < w.heap.size := fun k hk => h.own.lt k hk
  have hsz : (w.alloc (.cells (dcC X y).toArray 45)).heap.size = w.heap.size + 1 := by simp
  have hB5 : Below w0.heap.size w w5 := ((Below.refl _ w).alloc h.wr.size _).grown hg (Nat.le_trans h.wr.size (by simp)) (fun k hk => (h.own.lt k hk).1)
  have hW5 : Wr [gp, G] w0 w5 := h.wr.thenb hB5
  have hob' : ∀ k, v'.ownBlock = some k → w0.heap.size ≤ k := by
    intro k hk
    rcases hat with h1 | h1
    · exact (hobl k (h1 ▸ hk)).1
    · rw [h1] at hk
      injection hk with hk
      have := h.wr.size
      omega
  have hK : Keep (Fv w0.heap.size v) (Fv w0.heap.size v') w (w5.setCell ⟨G, 0, none⟩ v') := by
    refine ⟨Nat.le_trans hB5.size (by simp [World.setCell]), fun k hk hkl => ?_, fun k hk hkl => ⟨hk.1, fun e => ?_⟩⟩
    · rw [Below.heap_setCell w5 ⟨G, 0, none⟩ v' k (by have := hk.1; show k ≠ G; omega), hg.block k (by omega) hk.2.symm]
      exact Below.heap_alloc w _ k hkl
    · rcases hat with h1 | h1
      · exact hk.2 (h1 ▸ e)
      · rw [h1] at e
        injection e with e
        omega
  refine ⟨(h.st.belowB (h.lo.mono (Nat.le_of_lt hlt)) hB5).setNew h.lo (p := ⟨G, 0, none⟩) (Nat.le_refl _) _, hW5.setCell (by simp) _, ?_, ?_, by simp [h.nl], ?_, h.lo, h.lt⟩
  · exact ((h.e.alloc _).grown hg (fun e => by have := (hobl G e.symm).1; omega)).set_ 0 v'
  · rw [List.length_append, zipC_snoc dcC l sl X y h.nl]
    exact own_same ho (fun k hk hkl e => Below.heap_setCell w5 ⟨G, 0, none⟩ v' k (by have := hob' k e; show k ≠ G; omega))
  · intro i s p h1 h2
    rcases Nat.lt_or_ge i l.length with hi | hi
    · rw [List.getElem?_append_left hi] at h1
      rw [List.getElem?_append_left (by rw [h.nl]; exact hi)] at h2
      exact (h.ar i s p h1 h2).keep hK
    · have hi0 : i = l.length := by
        have := (List.getElem?_eq_some_iff.1 h1).1
        simp at this
        omega
      subst hi0
      simp at h1
      rw [← h.nl] at h2
      simp at h2
      subst h1 h2
      exact hy.keep hK
theorem RDp.fin (h : RDp gp G A n c ts w0 l sl v q w) : ∃ A' c', v = .slice A' l.length c' ∧ DcsIn (Fr w0.heap.size) w A' l := by
  obtain ⟨A', c', rfl, hc⟩ := own_form h.own
  have hK : Keep (Fv w0.heap.size (.slice A' l.length c')) (Fr w0.heap.size) w w := ⟨Nat.le_refl _, fun _ _ _ => rfl, fun k hk _ => hk.1⟩
  refine ⟨A', c', rfl, sl, h.nl, ⟨RdS.ofOwn3 h.own, fun hn ad e => ?_⟩, fun i s p h1 h2 => (h.ar i s p h1 h2).keep hK⟩
  subst e
  have h5 := h.own
  rcases h5.2 with ⟨h6, h0⟩ | ⟨g, cap, cur, hv, hb, _⟩
  · omega
  · injection hv with hA
    injection hA with hA
    subst hA
    exact ⟨hb, own_fro h5 rfl⟩
end
end
end Go.Proofs.YtafjkbbiaopemaaGreatDoor.Tr
