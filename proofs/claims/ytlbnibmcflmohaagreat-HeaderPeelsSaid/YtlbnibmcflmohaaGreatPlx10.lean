/- Part of the proof: RfA. -/
import Derived.IntWalk
import Derived.Test.YtlbnibmcflmohaaGreatPlx03
namespace Go.Proofs.YtlbnibmcflmohaaGreat
open Go.RowKit
attribute [local go_sem ↓] ldq_199 stq_199
end Go.Proofs.YtlbnibmcflmohaaGreat
/- shallotref02.Compress: the state behind a block. -/
namespace Go.Proofs.YtlbnibmcflmohaaGreat
open Go.RowKit
attribute [local go_sem ↓] ldq_199 stq_199
theorem n32_compl2 (x : UInt32) : bits .xor .u32 (if IntKind.u32.signed = true then -1 else IntKind.u32.max) (n32 x) = n32 (~~~ x) := n32_compl x
attribute [local go_sem] n32_compl2 n32_xor n32_and n32_or n32_addm n32_add n32_compl n32_shr3 n32_shr10
structure RIn (w : World) (s : Sh.St) (g : Nat) (wr : World) : Prop where
  st : Blk wr w.heap.size 55 (st8 s)
  out : Blk wr (w.heap.size + 1) 55 (u32s [0, 0, 0, 0, 0, 0, 0, 0])
  ks : Blk wr g 166 (u32s Sh.ks)
  big : w.heap.size + 2 < g
  bel : Below w.heap.size w wr
theorem RIn.far {w : World} {s : Sh.St} {g : Nat} {wr : World} (h : RIn w s g wr) {p : Addr} (h1 : w.heap.size + 2 ≤ p.block) (h2 : p.block ≠ g) (u : Value) : RIn w s g (wr.setCell p u) :=
  ⟨h.st.far (by omega) u, h.out.far (by omega) u, h.ks.far (by omega) u, h.big, h.bel.setCell (by omega) u⟩
theorem RIn.drewN {w : World} {s : Sh.St} {g : Nat} {wr : World} (h : RIn w s g wr) (n : Nat) : RIn w s g (wr.drewN n) := ⟨h.st.drewN n, h.out.drewN n, h.ks.drewN n, h.big, Below.drewN' h.bel n⟩
theorem RIn.drew {w : World} {s : Sh.St} {g : Nat} {wr : World} (h : RIn w s g wr) : RIn w s g wr.drew := ⟨h.st.drew, h.out.drew, h.ks.drew, h.big, h.bel.drew⟩
end Go.Proofs.YtlbnibmcflmohaaGreat
