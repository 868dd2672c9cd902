/- Part of the proof: HdA, Spm. -/
import Derived.Test.YtlbnibmcflmohaaGreatPlx04
namespace Go.Proofs.YtlbnibmcflmohaaGreat
open Go.RowKit
theorem hd34 : (Tryz.prog.info? 37).map (·.size) = some 288 := by kernel_rfl
theorem build34_0 (w : World) : (Instr.build 37 #[]).run Tryz.prog w = .ok (.agg Tryz.zeroCells37) w := by kernel_rfl
end Go.Proofs.YtlbnibmcflmohaaGreat
/- Header.Bytes: the 288 bytes of a header. -/
namespace Go.Proofs.YtlbnibmcflmohaaGreat
open Go.RowKit
end Go.Proofs.YtlbnibmcflmohaaGreat
/- Packets: their cells; Packet.Bytes. (For a seat without packet.Parse.) -/
namespace Go.Proofs.YtlbnibmcflmohaaGreat
open Go.RowKit
theorem zc34' : Tryz.zeroCells37 = (u8s (List.replicate 288 0)).toArray := by kernel_rfl
theorem ldq_34 (v : Value) : Instr.loadAt 37 v = ldAt 37 v := rfl
attribute [local go_sem ↓] ldq_34
end Go.Proofs.YtlbnibmcflmohaaGreat
namespace Go.Proofs.YtlbnibmcflmohaaGreat
open Go.RowKit
theorem splice_mid {α : Type} (A B C B' : List α) (k : Nat) (hk : A.length = k) (hb : B'.length = B.length) : splice (A ++ (B ++ C)) k B' = A ++ (B' ++ C) := by
  subst hk
  unfold splice
  rw [List.take_left, hb, ← List.append_assoc A B C, show A.length + B.length = (A ++ B).length from by simp, List.drop_left]
theorem splice_back {α : Type} (A B B' : List α) (k : Nat) (hk : A.length = k) (h : B'.length = B.length) : splice (A ++ B) k B' = A ++ B' := by
  have := splice_mid A B [] B' k hk h
  simpa using this
theorem Blk.all {w : World} {g : Nat} {t : TypeId} {l : List UInt8} {n : Nat} (h : Blk w g t (u8s l)) (hn : l.length = n) : Rd w (some ⟨g, 0, none⟩) n (u8s l) := by
  have := h.rd 0 n (by rw [u8s_length, hn]; omega)
  rwa [List.drop_zero, List.take_of_length_le (by rw [u8s_length, hn]; omega)] at this
end Go.Proofs.YtlbnibmcflmohaaGreat
