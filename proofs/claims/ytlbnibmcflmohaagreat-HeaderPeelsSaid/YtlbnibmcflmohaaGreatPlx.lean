/- HeaderPeels: a header that is built for a route opens hop by hop to the route's commands, with each hop's own key alone: for all commands, every scalar and all private keys (three at most are taken) the law returns true. -/
import Derived.Test.YtlbnibmcflmohaaGreatPlx51
namespace Go.Proofs.YtlbnibmcflmohaaGreat.headerPeels
open Go.RowKit
theorem reads_bss (B : Option Nat) (N : Nat) : Reads Tryz.prog B N 24 (fun s : Sl (Sl UInt8) => [s.val]) (SlIn B 1 24 (fun s : Sl UInt8 => [s.val]) (fun W s => Rd W s.A s.n (u8s s.l) ∧ s.n ≤ s.c ∧ s.c ≤ 140737488351232)) :=
  Reads.mono (reads_slice (N := N) 1 24 Tryz.underlying24 (by kernel_rfl) (by kernel_rfl) (by omega) (reads_bytes B N)) (by omega)
theorem rdB_of {W : World} {a : Sl (Sl UInt8)} (h : SlIn none 1 24 (fun s : Sl UInt8 => [s.val]) (fun W s => Rd W s.A s.n (u8s s.l) ∧ s.n ≤ s.c ∧ s.c ≤ 140737488351232) W a) : RdB W a.A a.n (a.l.map (·.l)) := by
  have hr := h.rd.to1
  have e : a.l.flatMap (fun s : Sl UInt8 => [s.val]) = a.l.map (·.val) := by
    generalize a.l = l
    induction l with
    | nil => rfl
    | cons x l ih => simp only [List.flatMap_cons, List.map_cons, ih]; rfl
  rw [e] at hr
  refine ⟨_, hr, by rw [List.length_map, h.len], fun i v hv => ?_⟩
  rw [List.getElem?_map] at hv
  cases hx : a.l[i]? with
  | none => rw [hx] at hv; cases hv
  | some s =>
    rw [hx] at hv
    injection hv with hv
    obtain ⟨h1, h2, _⟩ := h.each s (List.mem_of_getElem? hx)
    exact ⟨s.l, by rw [List.getElem?_map, hx]; rfl, s.A, s.n, s.c, hv.symm, h2, h1⟩
theorem walkA {W : World} (a : Sl Cm) (h1 : SlIn none 20 32 Cm.cells (fun _ c => c.ok) W a) (b : Sl UInt8) (h2 : Rd W b.A b.n (u8s b.l) ∧ b.n ≤ b.c ∧ b.c ≤ 140737488351232)
    (v : Sl (Sl UInt8)) (h3 : SlIn none 1 24 (fun s : Sl UInt8 => [s.val]) (fun W s => Rd W s.A s.n (u8s s.l) ∧ s.n ≤ s.c ∧ s.c ≤ 140737488351232) W v) : Calls Tryz.prog 3 #[a.val, b.val, v.val] W fun e w' => e = .returned (.bool true) ∧ Below W.heap.size W w' :=
  walk a.A a.n a.c a.l b.A b.n b.c b.l v.A v.n v.c (v.l.map (·.l)) W h1.rd (fun s hs => h1.each s hs) h1.len (by have h4 := h1.reach; have h5 := h1.cap; unfold reachBytes at h4; omega) h2.1 h2.2.1 h2.2.2 (rdB_of h3) (fun k hk => by
    obtain ⟨s, hs, rfl⟩ := List.mem_map.1 hk
    obtain ⟨a1, a2, a3⟩ := h3.each s hs
    have := a1.len
    omega) h3.cap
end Go.Proofs.YtlbnibmcflmohaaGreat.headerPeels
namespace Go.Proofs.YtlbnibmcflmohaaGreat.headerPeels
open Go.ChangeShapes Go.WideShapes Go.ChangeAt Go.RowKit
set_option linter.unusedVariables false
set_option maxRecDepth 100000 in
theorem lifted (os : Os) (started : os.Started) (H : Type) (enc : TypeId × Value → H) :
    ReturnsInHanded {} Tryz.checked os 3 .any (Rows.headerPeelsSpec.pre6 enc Tryz.prog Tryz.f3 Rows.headerPeelsRow.domain false) (Rows.headerPeelsSpec.post enc Tryz.prog Tryz.f3 false true false false) := by
  refine returnsInHanded_of_change_sized (C := Tryz.checked) own started (by kernel_rfl) Tryz.func3
    (ChangeSpec.witness6 (enc := enc) (C := Tryz.checked) false ⟨#[], #[.slice none 0 0, .slice none 0 0, .slice none 0 0], []⟩ 8 (by kernel_rfl) (by kernel_rfl) (by kernel_rfl) (by kernel_rfl)) ?_
  intro W base args ds gs before hval0 hW hcnd hsz0 _
  have hval : ∀ (j : Nat) t v, Tryz.f3.params[j]? = some t → args[j]? = some v → Value.okWide Tryz.prog W .any base t v := hval0
  have hsz : (DataW.weightsEach Tryz.prog (Tryz.f3.params.toList ++ Rows.headerPeelsSpec.plain.varTypes Tryz.prog) (ds ++ gs)).all (· ≤ reachBytes) = true := hsz0
  have hW' := hW
  obtain ⟨p, q, hA0, hV, rfl, hfz, hnd⟩ := hW
  have hA : DataW.TrodAll enc Tryz.prog W 0 (fun _ => true) true Tryz.f3.params.toList args.toList ds p := hA0
  rw [Tryz.params3] at hA hval hsz
  obtain ⟨v0, vs0, d0, ds0, p0, q0, hargs, rfl, rfl, h0, r0⟩ := trodAll_cons hA
  obtain ⟨v1, vs1, d1, ds1, p1, q1, rfl, rfl, rfl, h1, r1⟩ := trodAll_cons r0
  obtain ⟨v2, vs2, d2, ds2, p2, q2, rfl, rfl, rfl, h2, r2⟩ := trodAll_cons r1
  obtain ⟨rfl, rfl, rfl⟩ := trodAll_nil r2
  obtain rfl : args = #[v0, v1, v2] := by cases args; simp_all
  obtain ⟨rfl, rfl⟩ := trodVars_none hV
  have hwt := List.all_eq_true.1 hsz
  simp only [List.cons_append, List.nil_append, List.append_nil, DataW.weightsEach, List.mem_append, decide_eq_true_eq] at hwt
  have k0 := h0
  have lt0 : ∀ x ∈ p0, x.block < W.heap.size := by obtain ⟨m, hm⟩ := k0; exact DataW.trod_lt m _ _ _ hm
  obtain ⟨fuel0, hf0⟩ := h0
  obtain ⟨A0, n0, c0, rfl⟩ := okWide_slice Tryz.underlying22 (hval 0 22 v0 rfl rfl)
  obtain ⟨a0, e0, q0'⟩ := (reads_cms none (fuel0 + 1)).opens (Nat.lt_succ_self _) hf0 (fun k hk => hwt k (.inl hk)) (fun b e => by cases e)
  obtain ⟨A0', n0', c0', l0⟩ := a0
  obtain ⟨rfl, rfl, rfl⟩ : A0 = A0' ∧ n0 = n0' ∧ c0 = c0' := by simpa [Value.cells, Sl.val] using e0
  have k1 := h1
  have lt1 : ∀ x ∈ p1, x.block < W.heap.size := by obtain ⟨m, hm⟩ := k1; exact DataW.trod_lt m _ _ _ hm
  obtain ⟨fuel1, hf1⟩ := h1
  obtain ⟨A1, n1, c1, rfl⟩ := okWide_slice Tryz.underlying23 (hval 1 23 v1 rfl rfl)
  obtain ⟨a1, e1, q1'⟩ := (reads_bytes none (fuel1 + 1)).opens (Nat.lt_succ_self _) hf1 (fun k hk => hwt k (.inr (.inl hk))) (fun b e => by cases e)
  obtain ⟨A1', n1', c1', l1⟩ := a1
  obtain ⟨rfl, rfl, rfl⟩ : A1 = A1' ∧ n1 = n1' ∧ c1 = c1' := by simpa [Value.cells, Sl.val] using e1
  have k2 := h2
  have lt2 : ∀ x ∈ p2, x.block < W.heap.size := by obtain ⟨m, hm⟩ := k2; exact DataW.trod_lt m _ _ _ hm
  obtain ⟨fuel2, hf2⟩ := h2
  obtain ⟨A2, n2, c2, rfl⟩ := okWide_slice Tryz.underlying24 (hval 2 24 v2 rfl rfl)
  obtain ⟨a2, e2, q2'⟩ := (reads_bss none (fuel2 + 1)).opens (Nat.lt_succ_self _) hf2 (fun k hk => hwt k (.inr (.inr (.inl hk)))) (fun b e => by cases e)
  obtain ⟨A2', n2', c2', l2⟩ := a2
  obtain ⟨rfl, rfl, rfl⟩ : A2 = A2' ∧ n2 = n2' ∧ c2 = c2' := by simpa [Value.cells, Sl.val] using e2
  clear hA0 hval0
  refine (walkA _ q0' _ q1' _ q2').mono fun e W' ⟨he, bel⟩ => ?_
  subst he
  exact ⟨_, rfl, _, _, _, [], _, [], hW', trodAll_mk1 (shut_bool Tryz.underlying4 _), (trodAll_cons_mk (Below.trod laidOut (by kernel_rfl) (of_decide_eq_true (by kernel_rfl)) k0 bel lt0) (trodAll_cons_mk (Below.trod laidOut (by kernel_rfl) (of_decide_eq_true (by kernel_rfl)) k1 bel lt1) (trodAll_cons_mk (Below.trod laidOut (by kernel_rfl) (of_decide_eq_true (by kernel_rfl)) k2 bel lt2) trodAll_mk0))), rfl, bel.frame _, fun h => by cases h⟩
theorem over : Rows.headerPeelsRow.holds Tryz.pinned (OpenSpec.ofChange Rows.headerPeelsSpec) :=
  OpenClaim.holds_of_wide 3 Tryz.f3 rfl rfl rfl rfl rfl rfl rfl ⟨rfl, rfl, rfl, rfl, rfl⟩ rfl rfl rfl rfl rfl (by kernel_rfl) Tryz.func3 (by kernel_rfl)
    (of_decide_eq_true (by kernel_rfl)) (by unfold Func.isWrapper; first | (rw [if_pos (by decide +kernel)]; kernel_rfl) | (rw [if_neg (by decide +kernel)]; exact ⟨rfl, rfl⟩))
    (fun os started H enc _ => lifted os started H enc)
theorem proved : Rows.HeaderPeelsSaid := over
end Go.Proofs.YtlbnibmcflmohaaGreat.headerPeels
