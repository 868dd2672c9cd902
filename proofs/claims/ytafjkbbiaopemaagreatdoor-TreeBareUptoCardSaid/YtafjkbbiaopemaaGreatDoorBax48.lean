/- Part of the proof. -/
import Derived.Test.YtafjkbbiaopemaaGreatDoorBax39
import Derived.Test.YtafjkbbiaopemaaGreatDoorBax46
set_option linter.all false
set_option maxRecDepth 100000
set_option maxHeartbeats 0
namespace Go.Proofs.YtafjkbbiaopemaaGreatDoor.Tr
open Go.RowKit
section
section
variable{w w':World}
attribute [local go_sem ↓] zes
theorem zni(d:Nat):bytesOf (ind (d+1))=bytesOf (ind d)++{ data:=#[32,32] }:=by
 rw[show({ data:=#[32,32] } : ByteArray)=bytesOf [32,32] from rfl,zab]
 congr 1
 unfold ind
 rw[show 2*(d+1)=2*d+2 by omega,←List.replicate_append_replicate]
 rfl
end
end
section
section
variable{w w':World}
theorem ex_eql{P:Program}{w:World}{a:Act}{o:Oper}{t t':TypeId}{x y:Operand}{p:ByteArray}(ho:o.op=.binOp .eql t x y t')(hx:a.eval x=.string p)(hy:a.eval y=.string p):(execOp a.eval o).run P w=.ok (.value (.bool true)) w:=by
 unfold execOp
 simp[ho,hx,hy,eqGuard,binOp_string_eql]
theorem zjj(s:List UInt8){W:World}(A D:Option Addr)(ca cd:Nat)(hD:DcsIn (fun k=>k<W.heap.size) W D (parse s).1.decls)(hA:BodyIn (fun k=>k<W.heap.size) W A (parse s).1.body)(hT:Tab W.heap.size W):Calls Tryz.prog 12 #[.agg #[.slice D (parse s).1.decls.length cd,.slice A (parse s).1.body.length ca]] W fun r w'=>r=.returned (.string (bytesOf (prTop (parse s).1)))∧Below W.heap.size W w':=by
 obtain⟨ts,hTk,hd,hs,hdl,hbl,hl⟩:=zm8 s;exact zii hTk _ hd om (fun x hx=>(hs x hx).1) om (zlg fun x hx=>(hs x hx).2) A D ca cd W hD hA om (fun _ h=>h) hT
theorem prM:bytesOf (prTop ⟨[dcX],[stX]⟩)=txtM:=by kernel_rfl
theorem Tab.up(h:Tab w.heap.size w)(hW:Below w.heap.size w w'):Tab w'.heap.size w':=fun n W h0 h1 hB=>h n W h0 h1 (hW.trans (hB.mono hW.size))
theorem zp4(w:World)(hT:Tab w.heap.size w):Calls Tryz.prog 8 #[] w fun e w'=>e=.returned (.bool true)∧Below w.heap.size w w':=by
 have HP:Hid (∀W,Calls Tryz.prog 9 #[.string srcM] W fun e w'=>∃D d gb ob cb,e=.returned (.tuple #[.agg #[.slice D 1 d,.slice (some ⟨gb,ob,none⟩) 1 cb],.agg #[.int .i64 0,.int .i64 0]])∧DcsIn (Fr W.heap.size) w' D [dcX]∧BodyIn (Fr W.heap.size) w' (some ⟨gb,ob,none⟩) [stX]∧w'.cell? ⟨gb,ob+1,none⟩=some (.int .i64 8)∧gb<w'.heap.size∧Below W.heap.size W w'):=fun W=>by
  have h:=zkm srcM W
  unfold PaK at h
  rw[parseM]at h;refine h.mono ?_;rintro e w' ⟨D,d,A,cb,rfl,hd,hb,hB⟩;obtain⟨gb,ob,p,rfl,hgb,hr,_⟩:=zbr hb 0 sy;exact⟨D,d,gb,ob,cb,rfl,hd,hb,(by have h1:w'.cell? ⟨gb,ob+0*26+1,none⟩=some (.int .i64 8):=hr 1 _ rfl;simpa using h1),hgb,hB⟩
 have HR:Hid (∀W A D ca cd,(Below w.heap.size w W∧DcsIn (fun k=>k<W.heap.size) W D [dcX]∧BodyIn (fun k=>k<W.heap.size) W A [stX])→Calls Tryz.prog 12 #[.agg #[.slice D 1 cd,.slice A 1 ca]] W fun r w'=>r=.returned (.string txtM)∧Below W.heap.size W w'):=fun W A D ca cd h=>by
  have h1:=zjj srcM.data.toList (W:=W) A D ca cd (by rw[parseM];exact h.2.1) (by rw[parseM];exact h.2.2) (hT.up h.1);rw[parseM,prM]at h1;exact h1
 clear hT
 go_enter Tryz.func8, Tryz.ntmps8
 go_wp2_with (first
  | (go_at_call 12;(refine(HR.out _ _ _ _ _ (by exact HX.out _ _)).mono ?_);rintro e w4 ⟨rfl,hB4⟩;have H4:Hid (Below w.heap.size w w4):=(HX.out _ _).1.trans (hB4.mono (HX.out _ _).1.size);clear hB4)
  | (go_at_call 9;(refine(HP.out _).mono ?_);rintro e w2 ⟨D,d,gb,ob,cb,rfl,hD,hY,x1,hgb,hB2⟩
     have HX:Hid (∀o o',Below w.heap.size w ((w2.alloc o).alloc o')∧DcsIn (fun k=>k<((w2.alloc o).alloc o').heap.size) ((w2.alloc o).alloc o') D [dcX]∧BodyIn (fun k=>k<((w2.alloc o).alloc o').heap.size) ((w2.alloc o).alloc o') (some ⟨gb,ob,none⟩) [stX]):=fun o o' =>
      ⟨ze2 hB2 hB2.size,(hD.keep (Keep.of_below (ze2 (Below.refl _ _) lr) _)).keep zoi,(hY.keep (Keep.of_below (ze2 (Below.refl _ _) lr) _)).keep zoi⟩
     clear hD hY hB2))
 go_ret;exact⟨rfl,H4.out⟩
end
end
end Go.Proofs.YtafjkbbiaopemaaGreatDoor.Tr
