/- Part of the proof. -/
import Derived.Deep.DeepCutAuto
import Derived.Test.YtpgpaenloaphaaaGreatSmx15
import Derived.Test.YtpgpaenloaphaaaGreatSmx20
set_option maxRecDepth 100000
set_option maxHeartbeats 0
namespace Go.Proofs.YtpgpaenloaphaaaGreat
open Go.RowKit
section
def Cm.enc(c:Cm):List UInt8:=[c.k,c.f]++(Sh.beBytes c.d 4++(Sh.beBytes c.n 8++(c.m++[0,0])))
theorem Cm.enc_len{c:Cm}(h:c.ok):c.enc.length=32:=by simp[Cm.enc,beBytes_len,h.2.2]
attribute [local go_sem ↓] zfp zse zn0 zcg
theorem Below.al{w w':World}(h:Below w.heap.size w w')(o:Obj):Below w.heap.size w (w'.alloc o):=h.alloc h.size o
theorem zxn(c:Cm)(hc:c.ok)(h0:c.check=0)(w:World):
 Calls Tryz.prog 85 #[.agg c.cells.toArray] w fun e w'=>∃A' c',e=.returned (.tuple #[.slice A' 32 c',.int .i64 0])∧32≤c'∧w'.ownsRow w.heap.size 5 1 (.slice A' 32 c') 32 (u8s c.enc)∧Below w.heap.size w w':=by
 have HCK:=qh (fun W=>zny c hc W);have hl:=Cm.cells_len hc;have HEL:=qh (Cm.enc_len hc);have HEN:Hid ([[c.k,c.f],Sh.beBytes c.d 4,Sh.beBytes c.n 8,c.m,[0,0]].flatten=c.enc):=by show _=_;simp[Cm.enc]
 have HP4:=qh (fun W=>put_4 c.d W (by have:=hc.1;omega) hc.1);have HP8:=qh (fun W=>put_8 c.n W hc.2.1);have hd1:(0:Int)≤(c.d:Int):=om;have hd2:(c.d:Int)<4294967296:=by have:=hc.1;omega
 have HML:=qh hc.2.2;obtain⟨C,hC⟩:=ex9 (c.cells);have hb:Blk (w.alloc (.cells C.toArray 47)) w.heap.size 47 C:=Blk.new w _ _;rw[←hC]at hl HCK ⊢;have hld:(ldAt 47 (.pointer (some ⟨w.heap.size,0,none⟩))).run Tryz.prog (w.alloc (.cells C.toArray 47))=.ok (.agg C.toArray) (w.alloc (.cells C.toArray 47)):=cm_ld hb hl;have HC0:Hid (C[0]? = some (.int .u8 c.k.toNat)):=by rw[hC];rfl
 have HC1:Hid (C[1]? = some (.int .u8 c.f.toNat)):=by rw[hC];rfl
 have HC2:Hid (C[2]? = some (.int .u32 (c.d:Int))):=by rw[hC];rfl
 have HC3:Hid (C[3]? = some (.int .u64 (c.n:Int))):=by rw[hC];rfl
 have HC4:Hid (C.drop 4=u8s c.m):=by rw[hC];rfl
 have HCL:=qh hl;have HE:=qh ((Below.refl w.heap.size w).alloc lr (.cells C.toArray 47));have HB:=qh hb;rw[h0]at HCK;clear hb hl hC h0 hc
 go_enter Tryz.func85, Tryz.ntmps85
 go_wp2_with (first
  | (go_at_call 75;(with_reducible refine(HCK.out _).mono ?_);rintro e w1 ⟨rfl,hB1⟩;have HE1:=qh (HE.out.trans (hB1.mono sy));have HB1:=qbl HB hB1;have c2:w1.cell? ⟨w.heap.size,2,none⟩=some (.int .u32 (c.d:Int)):=by rw[HB1.out.cell];exact HC2.out
     clear hB1)
  | (go_at_call 102;(with_reducible refine(HP4.out w1).mono ?_);rintro e w2 ⟨rfl,hb2,hB2⟩;have HE2:=qtr HE1 hB2;have HB2:=qbl HB1 hB2;have HF2:=qh hb2;have c3:w2.cell? ⟨w.heap.size,3,none⟩=some (.int .u64 (c.n:Int)):=by rw[HB2.out.cell];exact HC3.out
     clear hb2 hB2)
  | (go_at_call 102;(with_reducible refine(HP8.out w2).mono ?_);rintro e w3 ⟨rfl,hb3,hB3⟩;have HE3:=qtr HE2 hB3;have HB3:=qbl HB2 hB3;have HF3:=qbl HF2 hB3;have HG3:=qh hb3;clear hb3 hB3))
 have HQ:Hid (∀(W:World) (gk gz gl:Nat),
     Blk W gl 22 [.slice (some ⟨gk,0,none⟩) 2 2,.slice (some ⟨w1.heap.size,0,none⟩) 4 4,.slice (some ⟨w2.heap.size,0,none⟩) 8 8,.slice (some ⟨w.heap.size,4,none⟩) 16 16,.slice (some ⟨gz,0,none⟩) 2 2] →
     Blk W w.heap.size 47 C→Blk W w1.heap.size 5 (u8s (Sh.beBytes c.d 4))→Blk W w2.heap.size 5 (u8s (Sh.beBytes c.n 8)) →
     Blk W gk 5 [.int .u8 c.k.toNat,.int .u8 c.f.toNat]→Blk W gz 5 [.int .u8 0,.int .u8 0] →
     Calls Tryz.prog 42 #[.slice (some ⟨gl,0,none⟩) 5 5] W fun e w'=>∃A' c',e=.returned (.slice A' 32 c')∧32≤c'∧w'.ownsRow W.heap.size 5 1 (.slice A' 32 c') 32 (u8s c.enc)∧Below W.heap.size W w'):=fun W gk gz gl h6 h1 h2 h3 h4 h5 =>
  zev _ 5 5 [[c.k,c.f],Sh.beBytes c.d 4,Sh.beBytes c.n 8,c.m,[0,0]] W (RdB.of_blk h6 ⟨.of_blk h4 0 2 2 [c.k,c.f] sy om rfl,.of_blk h2 0 4 4 (Sh.beBytes c.d 4) (by simp[zaa,beBytes_len]) om (by rw[List.drop_zero,tk (by simp[zaa,beBytes_len])]),
    .of_blk h3 0 8 8 (Sh.beBytes c.n 8) (by simp[zaa,beBytes_len]) om (by rw[List.drop_zero,tk (by simp[zaa,beBytes_len])]),.of_blk h1 4 16 16 c.m (by rw[HCL.out];omega) om (by rw[HC4.out,tk (by rw[zaa,HML.out];omega)]),.of_blk h5 0 2 2 [0,0] sy om rfl,trivial⟩) om c.enc 32 HEN.out HEL.out om
 have hmk:∀W,(Instr.makeSlice 22 (.int .i64 2) (.int .i64 2)).run Tryz.prog W=.ok (.slice (some ⟨W.heap.size,0,none⟩) 2 2) (W.alloc (.cells #[.int .u8 0,.int .u8 0] 5)):=fun W=>by kernel_rfl
 have HKP:Hid (∀W,Below w3.heap.size w3 W→W.cell? ⟨w.heap.size,0,none⟩=some (.int .u8 c.k.toNat)∧W.cell? ⟨w.heap.size,1,none⟩=some (.int .u8 c.f.toNat)):=fun W h=>by
  have h5:=HB3.out.below h HB3.out.lt;exact⟨(h5.cell 0).trans HC0.out,(h5.cell 1).trans HC1.out⟩
 go_region_held3 (fun W'=>W'.cell? ⟨w.heap.size,0,none⟩=some (.int .u8 c.k.toNat)∧W'.cell? ⟨w.heap.size,1,none⟩=some (.int .u8 c.f.toNat)) (exact HKP.out _ (by repeat (first|exact HS4|exact Below.refl _ _|apply Below.drew|apply Below.al))) ((go_at_call 42;(refine(HQ.out _ _ _ _ (by repeat (first|exact Blk.new' sy rfl|apply Blk.drew|apply Blk.alloc)) (by repeat (first|exact HB3.out|apply Blk.drew|apply Blk.alloc)) (by repeat (first|exact HF3.out|apply Blk.drew|apply Blk.alloc)) (by repeat (first|exact HG3.out|apply Blk.drew|apply Blk.alloc)) (by repeat (first|exact Blk.new' sy rfl|apply Blk.drew|apply Blk.alloc)) (by repeat (first|exact Blk.new' sy rfl|apply Blk.drew|apply Blk.alloc))).mono ?_);rintro e w4 ⟨A4,c4,rfl,hc4,hown4,hB4⟩;have HS4:Below w3.heap.size w3 w4:=Below.trans (by repeat (first|exact Below.refl _ _|apply Below.drew|apply Below.al)) (hB4.mono (by simp;omega));have HO4:=qh (zbj hown4 (base':=w.heap.size) (by have:=HE3.out.size;simp;omega));clear hown4 hB4))
 all_goals (go_wp2_with fail)
 all_goals go_ret2
 all_goals exact⟨A4,c4,rfl,hc4,HO4.out,HE3.out.trans (HS4.mono HE3.out.size)⟩
end
section
structure Sp where
 mac:List UInt8
 stream:List UInt8
 pay:List UInt8
 blind:List UInt8
 alpha:List UInt8
 secret:List UInt8
namespace Sp
def bytes(s:Sp):List UInt8:=s.mac++(s.stream++(s.pay++(s.blind++(s.alpha++s.secret))))
def cells(s:Sp):List Value:=u8s s.bytes
def ok(s:Sp):Prop:=s.mac.length=32∧s.stream.length=32∧s.pay.length=32∧s.blind.length=32∧s.alpha.length=32∧s.secret.length=32
theorem bytes_len{s:Sp}(h:s.ok):s.bytes.length=192:=by obtain⟨h1,h2,h3,h4,h5,h6⟩:=h;simp[bytes,h1,h2,h3,h4,h5,h6]
theorem cells_len{s:Sp}(h:s.ok):s.cells.length=192:=by rw[cells,zaa,bytes_len h]
theorem at_mac{s:Sp}(h:s.ok):(s.bytes.drop 0).take 32=s.mac:=by rw[bytes,List.drop_zero,List.take_left' h.1]
theorem at_stream{s:Sp}(h:s.ok):(s.bytes.drop 32).take 32=s.stream:=by rw[bytes,List.drop_left' h.1,List.take_left' h.2.1]
theorem at_alpha{s:Sp}(h:s.ok):(s.bytes.drop 128).take 32=s.alpha:=by
 have e:s.bytes=(s.mac++(s.stream++(s.pay++s.blind)))++(s.alpha++s.secret):=by simp[bytes]
 rw[e,List.drop_left' (by simp[h.1,h.2.1,h.2.2.1,h.2.2.2.1]),List.take_left' h.2.2.2.2.1]
end Sp
theorem Sp.rd{w:World}{g:Nat}{t:TypeId}{s:Sp}(hb:Blk w g t s.cells)(h:s.ok)(o:Nat)(x:List UInt8)(ho:o+32≤192)(hx:(s.bytes.drop o).take 32=x):Rd w (some ⟨g,o,none⟩) 32 (u8s x):=by
 have h5:=hb.rd o 32 (by rw[Sp.cells_len h];exact ho)
 rwa [Sp.cells,zbd,zaz,hx]at h5
theorem hd69:(Tryz.prog.info? 43).map (·.size)=some 192:=by kernel_rfl
def z288:List UInt8:=List.replicate 288 0
theorem zst:(u8s z288).length=288:=by rw[zaa,z288,lp9]
theorem zr1(v:Value):Instr.loadAt 43 v=ldAt 43 v:=rfl
attribute [local go_sem ↓] zr2 zr1 zcg
theorem hd_ld{w:World}{g:Nat}{t:TypeId}{C:List Value}(hb:Blk w g t C)(hl:C.length=288):(ldAt 32 (.pointer (some ⟨g,0,none⟩))).run Tryz.prog w=.ok (.agg C.toArray) w :=
 zal hb _ 0 C (by rw[List.drop_zero,tk lr]) _ Tryz.underlying32 rfl (by rw[hl];exact hd34)
theorem sp_ld{w:World}{g:Nat}{t:TypeId}{C:List Value}(hb:Blk w g t C)(hl:C.length=192):(ldAt 43 (.pointer (some ⟨g,0,none⟩))).run Tryz.prog w=.ok (.agg C.toArray) w :=
 zal hb _ 0 C (by rw[List.drop_zero,tk lr]) _ Tryz.underlying43 rfl (by rw[hl];exact hd69)
end
end Go.Proofs.YtpgpaenloaphaaaGreat
