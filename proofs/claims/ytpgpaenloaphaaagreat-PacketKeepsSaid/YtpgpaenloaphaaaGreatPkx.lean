/- PacketKeeps: no call of packet changes or keeps what it is handed: for every scalar, every payload and every list of hops the law returns true. -/
import Derived.Test.YtpgpaenloaphaaaGreatPkx51
set_option maxRecDepth 100000
set_option maxHeartbeats 0
namespace Go.Proofs.YtpgpaenloaphaaaGreat.packetKeeps
open Go.RowKit
theorem walkA{W:World}(a:Sl UInt8)(h:Rd W a.A a.n (u8s a.l)∧a.n≤a.c∧a.c≤140737488351232)(b:Sl UInt8)(h2:Rd W b.A b.n (u8s b.l)∧b.n≤b.c∧b.c≤140737488351232)(s:Sl Ho)(hs:SlIn none 68 104 Ho.cells (fun _ h=>h.ok) W s):
 Calls Tryz.prog 7 #[a.val,b.val,s.val] W fun e w'=>e=.returned (.bool true)∧Below W.heap.size W w' :=
 walk a.A b.A s.A a.n a.c b.n b.c s.n s.c a.l b.l s.l W h.1 h2.1 h.2.1 h.2.2 h2.2.1 h2.2.2 hs.rd hs.each hs.len (by have h1:=hs.cap;have h2:=hs.reach;unfold reachBytes at h2;omega)
section
open Go.ChangeShapes Go.WideShapes Go.ChangeAt Go.RowKit
set_option linter.unusedVariables false
theorem lifted(os:Os)(started:os.Started)(H:Type)(enc:TypeId × Value→H):
 ReturnsInHanded {} Tryz.checked os 7 .any (Rows.packetKeepsSpec.pre6 enc Tryz.prog Tryz.f7 Rows.packetKeepsRow.domain false) (Rows.packetKeepsSpec.post enc Tryz.prog Tryz.f7 false true false false):=by
 refine returnsInHanded_of_change_sized (C:=Tryz.checked) own started kr Tryz.func7
   (ChangeSpec.witness6 (enc:=enc) (C:=Tryz.checked) false ⟨#[],#[.slice none 0 0,.slice none 0 0,.slice none 0 0],[]⟩ 8 kr kr kr kr) ?_
 intro W base args ds gs before hval0 hW hcnd hsz0 _;have hval:∀(j:Nat) t v,Tryz.f7.params[j]? = some t→args[j]? = some v→Value.okWide Tryz.prog W .any base t v:=hval0;have hsz:(DataW.weightsEach Tryz.prog (Tryz.f7.params.toList++Rows.packetKeepsSpec.plain.varTypes Tryz.prog) (ds++gs)).all (·≤reachBytes)=true:=hsz0;have hW':=hW;obtain⟨p,q,hA0,hV,rfl,hfz,hnd⟩:=hW;have hA:DataW.TrodAll enc Tryz.prog W 0 (fun _=>true) true Tryz.f7.params.toList args.toList ds p:=hA0;rw[Tryz.params7]at hA hval hsz;obtain⟨v0,vs0,d0,ds0,p0,q0,hargs,rfl,rfl,h0,r0⟩:=trodAll_cons hA;obtain⟨v1,vs1,d1,ds1,p1,q1,rfl,rfl,rfl,h1,r1⟩:=trodAll_cons r0;obtain⟨v2,vs2,d2,ds2,p2,q2,rfl,rfl,rfl,h2,r2⟩:=trodAll_cons r1;obtain⟨rfl,rfl,rfl⟩:=trodAll_nil r2;obtain rfl:args=#[v0,v1,v2]:=by cases args;simp_all
 obtain⟨rfl,rfl⟩:=trodVars_none hV;have hwt:=List.all_eq_true.1 hsz;simp only[List.cons_append,List.nil_append,List.append_nil,DataW.weightsEach,List.mem_append,decide_eq_true_eq]at hwt;have k0:=h0;have lt0:∀x∈p0,x.block<W.heap.size:=by obtain⟨m,hm⟩:=k0;exact DataW.trod_lt m _ _ _ hm
 obtain⟨fuel0,hf0⟩:=h0;obtain⟨A0,n0,c0,rfl⟩:=okWide_slice Tryz.underlying22 (hval 0 22 v0 rfl rfl);obtain⟨a0,e0,q0'⟩:=(zg4 none (fuel0+1)).opens (Nat.lt_succ_self _) hf0 (fun k hk=>hwt k (.inl hk)) (fun b e=>by cases e);obtain⟨A0',n0',c0',l0⟩:=a0;obtain⟨rfl,rfl,rfl⟩:A0=A0'∧n0=n0'∧c0=c0':=by simpa[Value.cells,Sl.val] using e0
 have k1:=h1;have lt1:∀x∈p1,x.block<W.heap.size:=by obtain⟨m,hm⟩:=k1;exact DataW.trod_lt m _ _ _ hm
 obtain⟨fuel1,hf1⟩:=h1;obtain⟨A1,n1,c1,rfl⟩:=okWide_slice Tryz.underlying22 (hval 1 22 v1 rfl rfl);obtain⟨a1,e1,q1'⟩:=(zg4 none (fuel1+1)).opens (Nat.lt_succ_self _) hf1 (fun k hk=>hwt k (.inr (.inl hk))) (fun b e=>by cases e);obtain⟨A1',n1',c1',l1⟩:=a1;obtain⟨rfl,rfl,rfl⟩:A1=A1'∧n1=n1'∧c1=c1':=by simpa[Value.cells,Sl.val] using e1
 have k2:=h2;have lt2:∀x∈p2,x.block<W.heap.size:=by obtain⟨m,hm⟩:=k2;exact DataW.trod_lt m _ _ _ hm
 obtain⟨fuel2,hf2⟩:=h2;obtain⟨A2,n2,c2,rfl⟩:=okWide_slice Tryz.underlying57 (hval 2 57 v2 rfl rfl);obtain⟨a2,e2,q2'⟩:=(zqi none (fuel2+1)).opens (Nat.lt_succ_self _) hf2 (fun k hk=>hwt k (.inr (.inr (.inl hk)))) (fun b e=>by cases e);obtain⟨A2',n2',c2',l2⟩:=a2;obtain⟨rfl,rfl,rfl⟩:A2=A2'∧n2=n2'∧c2=c2':=by simpa[Value.cells,Sl.val] using e2
 clear hA0 hval0;refine(walkA _ q0' _ q1' _ q2').mono fun e W' ⟨he,bel⟩=>?_
 subst he;exact⟨_,rfl,_,_,_,[],_,[],hW',trodAll_mk1 (shut_bool Tryz.underlying4 _),(trodAll_cons_mk (Below.trod laidOut kr (of_decide_eq_true kr) k0 bel lt0) (trodAll_cons_mk (Below.trod laidOut kr (of_decide_eq_true kr) k1 bel lt1) (trodAll_cons_mk (Below.trod laidOut kr (of_decide_eq_true kr) k2 bel lt2) trodAll_mk0))),rfl,bel.frame _,fun h=>by cases h⟩
theorem over:Rows.packetKeepsRow.holds Tryz.pinned (OpenSpec.ofChange Rows.packetKeepsSpec) :=
 OpenClaim.holds_of_wide 7 Tryz.f7 rfl rfl rfl rfl rfl rfl rfl ⟨rfl,rfl,rfl,rfl,rfl⟩ rfl rfl rfl rfl rfl kr Tryz.func7 kr
   (of_decide_eq_true kr) (by unfold Func.isWrapper;first|(rw[if_pos (by decide +kernel)];kernel_rfl)| (rw[if_neg (by decide +kernel)];exact⟨rfl,rfl⟩))
   (fun os started H enc _=>lifted os started H enc)
theorem proved:Rows.PacketKeepsSaid:=over
end
end Go.Proofs.YtpgpaenloaphaaaGreat.packetKeeps
