/- Part of the proof: SurA. -/
import Derived.Test.YtpgpaenloaphaaaGreatPpx01
import Derived.Test.YtpgpaenloaphaaaGreatPpx03
namespace Go.Proofs.YtpgpaenloaphaaaGreat
open Go.RowKit
theorem ldq_37 (v : Value) : Instr.loadAt 59 v = ldAt 59 v := rfl
theorem stq_37 (p v : Value) : Instr.storeAt 59 p v = stAt 59 p v := rfl
theorem ldq_34s (v : Value) : Instr.loadAt 32 v = ldAt 32 v := rfl
theorem stq_34s (p v : Value) : Instr.storeAt 32 p v = stAt 32 p v := rfl
attribute [local go_sem ↓] ldq_37 stq_37 ldq_34s stq_34s
theorem splice_mid {α : Type} (A B C B' : List α) (k : Nat) (hk : A.length = k) (hb : B'.length = B.length) : splice (A ++ (B ++ C)) k B' = A ++ (B' ++ C) := by
 subst hk
 unfold splice
 rw [List.take_left, hb, ← List.append_assoc A B C, show A.length + B.length = (A ++ B).length from by simp, List.drop_left]
theorem splice_back {α : Type} (A B B' : List α) (k : Nat) (hk : A.length = k) (h : B'.length = B.length) : splice (A ++ B) k B' = A ++ B' := by
 have := splice_mid A B [] B' k hk h
 simpa using this
end Go.Proofs.YtpgpaenloaphaaaGreat
/- Block.Bytes: the 328 bytes of a reply block. -/
namespace Go.Proofs.YtpgpaenloaphaaaGreat
open Go.RowKit
attribute [local go_sem ↓] ldq_37 stq_37 ldq_34s stq_34s
end Go.Proofs.YtpgpaenloaphaaaGreat
/- The fixed fact of layer 16: it holds. -/
namespace Go.Proofs.YtpgpaenloaphaaaGreat
open Go.RowKit
attribute [local go_sem ↓] ldq_37 stq_37 ldq_34s stq_34s
theorem Blk.all {w : World} {g : Nat} {t : TypeId} {l : List UInt8} {n : Nat} (h : Blk w g t (u8s l)) (hn : l.length = n) : Rd w (some ⟨g, 0, none⟩) n (u8s l) := by
 have := h.rd 0 n (by rw [u8s_length, hn]; omega)
 rwa [List.drop_zero, List.take_of_length_le (by rw [u8s_length, hn]; omega)] at this
end Go.Proofs.YtpgpaenloaphaaaGreat
