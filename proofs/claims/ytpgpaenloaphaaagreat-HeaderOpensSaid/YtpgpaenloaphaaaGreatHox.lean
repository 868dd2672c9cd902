/- HeaderOpens: a header is opened by a hop's keys just if its tag fits, to the command and the next header that the document says: for every list of bytes and every step the law returns true. -/
import Derived.Test.YtpgpaenloaphaaaGreatHox29
import Derived.Test.YtpgpaenloaphaaaGreatHox30
import Derived.Test.YtpgpaenloaphaaaGreatHox51
namespace Go.Proofs.YtpgpaenloaphaaaGreat
open Go.RowKit
theorem flat_u8 (l : List UInt8) : (l.flatMap fun x => [u8 x]) = u8s l := by
  induction l with
  | nil => rfl
  | cons a l ih => rw [List.flatMap_cons, ih]; rfl
theorem reads_bytes (B : Option Nat) (N : Nat) : Reads Tryz.prog B N 22 (fun s : Sl UInt8 => [s.val]) (fun W s => Rd W s.A s.n (u8s s.l) ∧ s.n ≤ s.c ∧ s.c ≤ 140737488351232) :=
  Reads.mono ((reads_slice (N := N) 1 1 Tryz.underlying22 (by kernel_rfl) (by kernel_rfl) (by omega) (reads_u8 Tryz.underlying5)).imp
    fun W s h => ⟨s, rfl, by
      refine ⟨?_, h.cap, ?_⟩
      · have := h.rd
        rw [flat_u8] at this
        exact this.to1
      · have h2 : s.c * 1 ≤ reachBytes := h.reach
        unfold reachBytes at h2
        omega⟩) (by omega)
end Go.Proofs.YtpgpaenloaphaaaGreat
namespace Go.Proofs.YtpgpaenloaphaaaGreat
open Go.RowKit
def toU8h : Value → UInt8
  | .int .u8 k => UInt8.ofNat k.toNat
  | _ => 0
theorem reads_arrH {P : Program} {B : Option Nat} {N n : Nat} {t e : TypeId} (ht : P.underlying t = some (.array n e)) (hu : P.underlying e = some (.int .u8)) (hc : P.cellsOf e = 1) (hct : P.cellsOf t = n) : Reads P B N t (fun l : List UInt8 => u8s l) (fun _ l => l.length = n) :=
  ⟨fun {H enc W fuel cs x} hf hx hw hb => by
    obtain ⟨xs, m, rfl, rfl, hlen, hxl, hel⟩ := DataW.trod_array ht hx
    refine ⟨cs.map toU8h, ?_, by rw [List.length_map, hlen, hct]⟩
    have hall : ∀ v ∈ cs, u8 (toU8h v) = v := by
      intro v hv
      obtain ⟨i, hi, rfl⟩ := List.getElem_of_mem hv
      have h1 := hel i (by omega)
      rw [hc, Nat.mul_one, List.getElem?_eq_getElem (by omega)] at h1
      obtain ⟨k, e1, _, hk⟩ := DataW.trod_int hu h1
      rw [List.drop_eq_getElem_cons hi, List.take_succ_cons, List.take_zero] at e1
      injection e1 with e1 _
      rw [e1]
      exact congrArg (fun z => Value.int .u8 z) (u8_of_wf hk).symm
    rw [u8s, List.map_map]
    have h2 : cs.map (u8 ∘ toU8h) = cs.map id := List.map_congr_left (fun v hv => hall v hv)
    rw [h2, List.map_id]⟩
theorem reads_keys (B : Option Nat) (N : Nat) : Reads Tryz.prog B N 25 (fun x : List UInt8 × List UInt8 × List UInt8 × List UInt8 => u8s x.1 ++ (u8s x.2.1 ++ (u8s x.2.2.1 ++ u8s x.2.2.2))) (fun _ x => x.1.length = 32 ∧ x.2.1.length = 32 ∧ x.2.2.1.length = 32 ∧ x.2.2.2.length = 32) :=
  Reads.mono ((reads_struct (N := N) Tryz.underlying25 (by kernel_rfl)
    (readsF_cons (sz := 32) rfl (by kernel_rfl) (reads_arrH Tryz.underlying23 Tryz.underlying5 (by kernel_rfl) (by kernel_rfl)) (readsF_cons (sz := 32) rfl (by kernel_rfl) (reads_arrH Tryz.underlying23 Tryz.underlying5 (by kernel_rfl) (by kernel_rfl)) (readsF_cons (sz := 32) rfl (by kernel_rfl) (reads_arrH Tryz.underlying23 Tryz.underlying5 (by kernel_rfl) (by kernel_rfl)) (readsF_cons (sz := 32) rfl (by kernel_rfl) (reads_arrH Tryz.underlying23 Tryz.underlying5 (by kernel_rfl) (by kernel_rfl)) readsF_nil))))).imp
    fun W ⟨a, b, c, d, _⟩ ⟨h1, h2, h3, h4, _⟩ => ⟨(a, b, c, d), by simp, h1, h2, h3, h4⟩) (by omega)
theorem reads_sp (B : Option Nat) (N : Nat) : Reads Tryz.prog B N 27 Sp.cells (fun _ s => s.ok) :=
  Reads.mono ((reads_struct (N := N) Tryz.underlying27 (by kernel_rfl)
    (readsF_cons (sz := 128) rfl (by kernel_rfl) (reads_keys B N) (readsF_cons (sz := 32) rfl (by kernel_rfl) (reads_arrH Tryz.underlying23 Tryz.underlying5 (by kernel_rfl) (by kernel_rfl)) (readsF_cons (sz := 32) rfl (by kernel_rfl) (reads_arrH Tryz.underlying23 Tryz.underlying5 (by kernel_rfl) (by kernel_rfl)) readsF_nil)))).imp
    fun W ⟨⟨a, b, c, d⟩, e, f, _⟩ ⟨⟨h1, h2, h3, h4⟩, h5, h6, _⟩ => ⟨⟨a, b, c, d, e, f⟩, by simp [Sp.cells, Sp.bytes, u8s_append], h1, h2, h3, h4, h5, h6⟩) (by omega)
end Go.Proofs.YtpgpaenloaphaaaGreat
namespace Go.Proofs.YtpgpaenloaphaaaGreat.headerOpens
open Go.RowKit
theorem walkA {W : World} (a : Sl UInt8) (h : Rd W a.A a.n (u8s a.l) ∧ a.n ≤ a.c ∧ a.c ≤ 140737488351232) (s : Sp) (hs : s.ok) : Calls Tryz.prog 4 #[a.val, .agg s.cells.toArray] W fun e w' => e = .returned (.bool true) ∧ Below W.heap.size W w' :=
  walk a.A a.n a.c a.l s hs W h.1 h.2.1
end Go.Proofs.YtpgpaenloaphaaaGreat.headerOpens
namespace Go.Proofs.YtpgpaenloaphaaaGreat.headerOpens
open Go.ChangeShapes Go.WideShapes Go.ChangeAt Go.RowKit
set_option linter.unusedVariables false
set_option maxRecDepth 100000 in
theorem lifted (os : Os) (started : os.Started) (H : Type) (enc : TypeId × Value → H) :
    ReturnsInHanded {} Tryz.checked os 4 .any (Rows.headerOpensSpec.pre6 enc Tryz.prog Tryz.f4 Rows.headerOpensRow.domain false) (Rows.headerOpensSpec.post enc Tryz.prog Tryz.f4 false true false false) := by
  refine returnsInHanded_of_change_sized (C := Tryz.checked) own started (by kernel_rfl) Tryz.func4
    (ChangeSpec.witness6 (enc := enc) (C := Tryz.checked) false ⟨#[], #[.slice none 0 0, .agg Tryz.zeroCells27], []⟩ 8 (by kernel_rfl) (by kernel_rfl) (by kernel_rfl) (by kernel_rfl)) ?_
  intro W base args ds gs before hval0 hW hcnd hsz0 _
  have hval : ∀ (j : Nat) t v, Tryz.f4.params[j]? = some t → args[j]? = some v → Value.okWide Tryz.prog W .any base t v := hval0
  have hsz : (DataW.weightsEach Tryz.prog (Tryz.f4.params.toList ++ Rows.headerOpensSpec.plain.varTypes Tryz.prog) (ds ++ gs)).all (· ≤ reachBytes) = true := hsz0
  have hW' := hW
  obtain ⟨p, q, hA0, hV, rfl, hfz, hnd⟩ := hW
  have hA : DataW.TrodAll enc Tryz.prog W 0 (fun _ => true) true Tryz.f4.params.toList args.toList ds p := hA0
  rw [Tryz.params4] at hA hval hsz
  obtain ⟨v0, vs0, d0, ds0, p0, q0, hargs, rfl, rfl, h0, r0⟩ := trodAll_cons hA
  obtain ⟨v1, vs1, d1, ds1, p1, q1, rfl, rfl, rfl, h1, r1⟩ := trodAll_cons r0
  obtain ⟨rfl, rfl, rfl⟩ := trodAll_nil r1
  obtain rfl : args = #[v0, v1] := by cases args; simp_all
  obtain ⟨rfl, rfl⟩ := trodVars_none hV
  have hwt := List.all_eq_true.1 hsz
  simp only [List.cons_append, List.nil_append, List.append_nil, DataW.weightsEach, List.mem_append, decide_eq_true_eq] at hwt
  have k0 := h0
  have lt0 : ∀ x ∈ p0, x.block < W.heap.size := by obtain ⟨m, hm⟩ := k0; exact DataW.trod_lt m _ _ _ hm
  obtain ⟨fuel0, hf0⟩ := h0
  obtain ⟨A0, n0, c0, rfl⟩ := okWide_slice Tryz.underlying22 (hval 0 22 v0 rfl rfl)
  obtain ⟨a0, e0, q0'⟩ := (reads_bytes none (fuel0 + 1)).opens (Nat.lt_succ_self _) hf0 (fun k hk => hwt k (.inl hk)) (fun b e => by cases e)
  obtain ⟨A0', n0', c0', l0⟩ := a0
  obtain ⟨rfl, rfl, rfl⟩ : A0 = A0' ∧ n0 = n0' ∧ c0 = c0' := by simpa [Value.cells, Sl.val] using e0
  have k1 := h1
  have lt1 : ∀ x ∈ p1, x.block < W.heap.size := by obtain ⟨m, hm⟩ := k1; exact DataW.trod_lt m _ _ _ hm
  obtain ⟨fuel1, hf1⟩ := h1
  obtain ⟨a1, e1, q1'⟩ := (reads_sp none (fuel1 + 1)).opens (Nat.lt_succ_self _) hf1 (fun k hk => hwt k (.inr (.inl hk))) (fun b e => by cases e)
  obtain ⟨cs1, rfl, hcs1⟩ := okWide_struct Tryz.underlying27 (hval 1 27 v1 rfl rfl)
  have e1' : cs1.toList = _ := e1
  obtain ⟨cs1⟩ := cs1
  simp only at e1'
  subst e1'
  clear hA0 hval0
  refine (walkA _ q0' a1 q1').mono fun e W' ⟨he, bel⟩ => ?_
  subst he
  exact ⟨_, rfl, _, _, _, [], _, [], hW', trodAll_mk1 (shut_bool Tryz.underlying4 _), (trodAll_cons_mk (Below.trod laidOut (by kernel_rfl) (of_decide_eq_true (by kernel_rfl)) k0 bel lt0) (trodAll_cons_mk (Below.trod laidOut (by kernel_rfl) (of_decide_eq_true (by kernel_rfl)) k1 bel lt1) trodAll_mk0)), rfl, bel.frame _, fun h => by cases h⟩
theorem over : Rows.headerOpensRow.holds Tryz.pinned (OpenSpec.ofChange Rows.headerOpensSpec) :=
  OpenClaim.holds_of_wide 4 Tryz.f4 rfl rfl rfl rfl rfl rfl rfl ⟨rfl, rfl, rfl, rfl, rfl⟩ rfl rfl rfl rfl rfl (by kernel_rfl) Tryz.func4 (by kernel_rfl)
    (of_decide_eq_true (by kernel_rfl)) (by unfold Func.isWrapper; first | (rw [if_pos (by decide +kernel)]; kernel_rfl) | (rw [if_neg (by decide +kernel)]; exact ⟨rfl, rfl⟩))
    (fun os started H enc _ => lifted os started H enc)
theorem proved : Rows.HeaderOpensSaid := over
end Go.Proofs.YtpgpaenloaphaaaGreat.headerOpens
