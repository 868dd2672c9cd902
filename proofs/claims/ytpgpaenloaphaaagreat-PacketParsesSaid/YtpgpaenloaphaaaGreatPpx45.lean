/- Part of the proof: Fil, Blp, Stq. -/
import Derived.Great.BuildSlice
import Derived.Test.YtpgpaenloaphaaaGreatPpx01
import Derived.Test.YtpgpaenloaphaaaGreatPpx17
import Derived.Test.YtpgpaenloaphaaaGreatPpx21
import Derived.Test.YtpgpaenloaphaaaGreatPpx24
import Derived.Test.YtpgpaenloaphaaaGreatPpx42
namespace Go.Proofs.YtpgpaenloaphaaaGreat
open Go.RowKit
def fil (ss : List Sp) : Nat → List UInt8
 | 0 => []
 | k + 1 => Ch.xor (fil ss k ++ List.replicate 48 0) ((Ch.piece ((ss[k]?.map Sp.stream).getD []) 0 288).drop (288 - (48 * k + 48)))
theorem Sp.cells_one (s : Sp) : ∀ v ∈ s.cells, v.oneCell' = true := u8s_one _
theorem zcSp : Tryz.zeroCells43 = (u8s (List.replicate 192 0)).toArray := by kernel_rfl
attribute [local go_sem ↓] ldq_69
end Go.Proofs.YtpgpaenloaphaaaGreat
namespace Go.Proofs.YtpgpaenloaphaaaGreat
open Go.RowKit
def betaOf (c : Cm) (s : Sp) (f : List UInt8) (m : Nat) (P : List UInt8) : List UInt8 :=
 if m = 0 then Ch.turn s.stream (c.enc ++ List.replicate (240 - f.length - 32) 0) ++ f
 else Ch.turn s.stream (c.enc ++ ((P.drop 32).take 16 ++ (P.drop 48).take 192))
def headOf (c : Cm) (s : Sp) (f : List UInt8) (m : Nat) (P : List UInt8) : List UInt8 :=
 s.alpha ++ ((Mc.tag s.mac (s.alpha ++ betaOf c s f m P)).take 16 ++ betaOf c s f m P)
def hst (cs : List Cm) (ss : List Sp) (n : Nat) : Nat → List UInt8
 | 0 => z288
 | m + 1 => match cs[n - 1 - m]?, ss[n - 1 - m]? with
   | some c, some s => headOf c s (fil ss (n - 1)) m (hst cs ss n m)
   | _, _ => []
theorem RdS.wr {sz : Nat} {w w' : World} {A : Option Addr} {n g : Nat} {xs : List Value} (h : RdS sz w A n xs) (hw : Wrote g w w') (hA : ∀ ad : Addr, A = some ad → ad.block ≠ g) : RdS sz w' A n xs := by
 refine ⟨h.1, fun hn => ?_⟩
 obtain ⟨b, off, e, hlt, hc⟩ := h.2 hn
 exact ⟨b, off, e, Nat.lt_of_lt_of_le hlt hw.size, fun j u hu => (World.grownBy.cell_far hw ⟨b, off + j, none⟩ hlt (fun e' => hA _ e (by injection e'))).trans (hc j u hu)⟩
end Go.Proofs.YtpgpaenloaphaaaGreat
namespace Go.Proofs.YtpgpaenloaphaaaGreat
open Go.RowKit
theorem hd67 : (Tryz.prog.info? 25).map (·.size) = some 128 := by kernel_rfl
def places69 : Array (Nat × Nat) := #[(0, 128), (128, 32), (160, 32)]
theorem pl69 (fields : Array Field) (h : Tryz.prog.underlying 43 = some (.struct fields)) (w : World) : (fields.mapM (fun f => do pure (f.offset, ← sizeOf f.type)) : Sem (Array (Nat × Nat))).run Tryz.prog w = .ok places69 w := by
 rw [Tryz.underlying43] at h
 injection h with h
 injection h with h
 subst h
 kernel_rfl
def Sp.keys (s : Sp) : List UInt8 := s.mac ++ (s.stream ++ (s.pay ++ s.blind))
theorem Sp.bytes_is (s : Sp) : s.bytes = s.keys ++ (s.alpha ++ s.secret) := by simp [Sp.bytes, Sp.keys]
theorem Sp.keys_len {s : Sp} (h : s.ok) : s.keys.length = 128 := by simp [Sp.keys, h.1, h.2.1, h.2.2.1, h.2.2.2.1]
theorem bld_sp (s : Sp) (h : s.ok) (w : World) : (Instr.build 43 #[(0, .agg (u8s s.keys).toArray), (1, .agg (u8s s.alpha).toArray), (2, .agg (u8s s.secret).toArray)]).run Tryz.prog w = .ok (.agg s.cells.toArray) w := by
 have e0 : (u8s s.keys).length = 128 := by rw [u8s_length, Sp.keys_len h]
 have e1 : (u8s s.alpha).length = 32 := by rw [u8s_length, h.2.2.2.2.1]
 have e2 : (u8s s.secret).length = 32 := by rw [u8s_length, h.2.2.2.2.2]
 refine run_build Tryz.zeroValue43 Tryz.underlying43 (pl69 _ Tryz.underlying43) ?_ w
 rw [zcSp]
 show Instr.fill _ _ [(0, _), (1, _), (2, _)] = _
 rw [fill_cons (cs := u8s s.keys) rfl (by rw [e0]; rfl) (by rw [e0, u8s_length, List.length_replicate]; omega),
   fill_cons (cs := u8s s.alpha) rfl (by rw [e1]; rfl) (by rw [length_splice _ _ _ (by rw [e0, u8s_length, List.length_replicate]; omega), e1, u8s_length, List.length_replicate]; omega),
   fill_cons (cs := u8s s.secret) rfl (by rw [e2]; rfl) (by rw [length_splice _ _ _ (by rw [length_splice _ _ _ (by rw [e0, u8s_length, List.length_replicate]; omega), e1, u8s_length, List.length_replicate]; omega), length_splice _ _ _ (by rw [e0, u8s_length, List.length_replicate]; omega), e2, u8s_length, List.length_replicate]; omega)]
 have : splice (splice (splice (u8s (List.replicate 192 0)) 0 (u8s s.keys)) 128 (u8s s.alpha)) 160 (u8s s.secret) = s.cells := by
   rw [splice_splice_splice _ _ _ _ 128 32 e0 e1 (by rw [u8s_length, List.length_replicate, e2])]
   rw [Sp.cells, Sp.bytes_is, u8s_append, u8s_append]
 rw [this]
 rfl
theorem ldq_67 (v : Value) : Instr.loadAt 25 v = ldAt 25 v := rfl
theorem ldq_24 (v : Value) : Instr.loadAt 23 v = ldAt 23 v := rfl
attribute [local go_sem ↓] ldq_67 ldq_24
end Go.Proofs.YtpgpaenloaphaaaGreat
