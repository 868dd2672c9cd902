/- TreePrints: a parsed source, printed, parsed and printed again, is the same tree and the same text: for every source the law returns true. -/
import Derived.Test.YtafjkbbiaopemaaGreatDoorRows
import Derived.ProofKit
import Derived.OpenShut
import Derived.ShutString
import Derived.ChangeOld
import Derived.SizedLaws
import Derived.Test.YtafjkbbiaopemaaGreatDoorTie
import Derived.Test.YtafjkbbiaopemaaGreatDoorCards
import Derived.LaidMore
import Derived.LaidHandle
import Derived.ChangeSame
import Derived.SevenTiedAt
import Derived.LaidSub
import Derived.MakeChecks
import Derived.Test.YtafjkbbiaopemaaGreatDoorPrx39
set_option linter.all false
set_option maxRecDepth 100000
set_option maxHeartbeats 0
namespace Go.Proofs.YtafjkbbiaopemaaGreatDoor
open Go.RowKit
section
open Go.ChangeShapes Go.WideShapes Go.ChangeAt Go.RowKit
open Go.ChangeMaps (open_string shut_string)
theorem own:ownKnob Tryz.prog.godebug=none:=by kernel_rfl
theorem laidOut:laidOutB Tryz.prog = true:=by kernel_rfl
end
end Go.Proofs.YtafjkbbiaopemaaGreatDoor
namespace Go.Proofs.YtafjkbbiaopemaaGreatDoor.treePrints
open Go.RowKit
section
open Go.ChangeShapes Go.WideShapes Go.ChangeAt Go.RowKit
open Go.ChangeMaps (open_string shut_string)
set_option linter.unusedVariables false
noncomputable def lst:List (String × DataW Unit):=[("math/bits.deBruijn32tab",Rows.laid_math_bits_deBruijn32tab),("math/bits.deBruijn64tab",Rows.laid_math_bits_deBruijn64tab),("internal/strconv.uint64pow10",Rows.laid_internal_strconv_uint64pow10)]
theorem zo1(os:Os)(args:Array Value):laidMetH Tryz.prog lst ((World.doorLaid Tryz.prog 24 os).forCall (fun _ _=>0) ⟨#[],args,[]⟩).memory :=
 laidMetH_of_parts (laidMet_of_run' 65 kr kr) kr
theorem zp0{W:World}(h:laidMetH Tryz.prog lst W):Lib.TabIs Tryz.prog W "internal/strconv.uint64pow10" .u64 Lib.pow10Tab:=by
 have h1:=h.filter (fun x=>decide (x.1 = "internal/strconv.uint64pow10"))
 rw[show(lst.filter fun x=>decide (x.1 = "internal/strconv.uint64pow10"))=[("internal/strconv.uint64pow10",Lib.tabData .u64 Lib.pow10Tab)] by rfl,Go.MakeChecks.laidMetH_plain _ _ _ rr]at h1
 exact Lib.tabIs_of_head (n:=20) (e:=159) (g:=(Tryz.prog.globalNamed "internal/strconv.uint64pow10").getD 0) kr rfl kr kr kr kr h1
theorem lifted(os:Os)(started:os.Started)(H:Type)(enc:TypeId × Value→H):
 ReturnsInHanded {} Tryz.checked os 4 .any (fun w args=>(Rows.treePrintsSpec.pre enc Tryz.prog Tryz.f4 [] false w args∧laidMetH Tryz.prog lst w)∧sizedMet enc Tryz.prog Tryz.f4 (OpenSpec.ofChange Rows.treePrintsSpec) false w args)
   (Rows.treePrintsSpec.post enc Tryz.prog Tryz.f4 false true false false):=by
 refine returnsInHanded_of_change_and (C:=Tryz.checked) (X:=fun w _=>laidMetH Tryz.prog lst w) (fun _ _ _ hh h=>h.of_heap hh) own started kr Tryz.func4
   (ChangeSpec.witness_shaped (enc:=enc) (C:=Tryz.checked) (os:=os) (X:=fun w _=>laidMetH Tryz.prog lst w) false (World.doorLaid Tryz.prog 24 os) #[.string { data:=#[] }] 8 rfl (World.shaped_of_RefB kr kr) kr kr kr (zo1 os _)) ?_
 intro W base args ds gs before hval0 hW _ hsz0 q1 q2;have hlaid:laidMetH Tryz.prog lst W:=by first|exact q1|exact q2
 have hval:∀(j:Nat) t v,Tryz.f4.params[j]? = some t→args[j]? = some v→Value.okWide Tryz.prog W .any base t v:=hval0;have hsz:(DataW.weightsEach Tryz.prog (Tryz.f4.params.toList++Rows.treePrintsSpec.plain.varTypes Tryz.prog) (ds++gs)).all (·≤reachBytes)=true:=hsz0;have hW':=hW;obtain⟨p,q,hA0,hV,rfl,hfz,hnd⟩:=hW;have hA:DataW.TrodAll enc Tryz.prog W 0 (fun _=>true) true Tryz.f4.params.toList args.toList ds p:=hA0;rw[Tryz.params4]at hA hval hsz;obtain⟨v0,vs0,d0,ds0,p0,q0,hargs,rfl,rfl,h0,r0⟩:=trodAll_cons hA;obtain⟨rfl,rfl,rfl⟩:=trodAll_nil r0;obtain rfl:args=#[v0]:=by cases args;simp_all
 obtain⟨rfl,rfl⟩:=trodVars_none hV;obtain⟨s0,rfl,rfl,rfl,_⟩:=open_string Tryz.underlying9 (hval 0 9 v0 rfl rfl) h0;have k0:=h0;have lt0:∀x∈([]:List MemPlace),x.block<W.heap.size:=fun x hx=>by cases hx
 clear hA0 hval0;refine(Tr.treePrints_w s0 W (Tr.tab_of (zp0 hlaid))).mono fun e W' ⟨he,bel⟩=>?_
 subst he;exact⟨_,rfl,_,_,_,[],_,[],hW',trodAll_mk1 (shut_bool Tryz.underlying4 _),(trodAll_cons_mk (Below.trod laidOut kr (of_decide_eq_true kr) k0 bel lt0) trodAll_mk0),rfl,bel.frame _,fun h=>by cases h⟩
theorem over:Rows.treePrintsRow.holds Tryz.pinned (OpenSpec.ofChange Rows.treePrintsSpec) :=
 OpenClaim.holds_of_wide 4 Tryz.f4 rfl rfl rfl rfl rfl rfl rfl ⟨rfl,rfl,rfl,rfl,rfl⟩ rfl rfl rfl rfl rfl kr Tryz.func4 kr
   (of_decide_eq_true kr) (by unfold Func.isWrapper;first|(rw[if_pos (by decide +kernel)];kernel_rfl)| (rw[if_neg (by decide +kernel)];exact⟨rfl,rfl⟩))
   (fun os started H enc _=>lifted os started H enc)
theorem card:Rows.TreePrintsCardSaid :=
 Claim7.holds_tied_plain_at .later [] [.data,.data,.data] true (true,"4698a40335d6db5cd93e67fa4c54c93c99b7f9c93088d6c4b341a6a6b11f3b45") false
   over (fun _ h=>by cases h) kr (fun _ h=>by cases h) treePrints_row_tie rfl ⟨rfl,rfl⟩ kr rfl
   (fun f fn hf hfn=>by
    obtain rfl:f=4:=Option.some.inj ((show Tryz.prog.funcNamed "shallot/shallotlaw22.TreePrints" = some 4 by kernel_rfl).symm.trans hf)|>.symm
    obtain rfl:fn=Tryz.f4:=(Option.some.inj (Tryz.func4.symm.trans hfn)).symm
    exact⟨by kernel_rfl,fun j t ht=>by
     rw[Tryz.params4]at ht;have hm:t∈[9]:=by simpa using Array.mem_of_getElem? ht
     have hall:([9].all fun u=>!Tryz.prog.wantsStandIn u)=true:=by kernel_rfl
     exact(show Tryz.prog.wantsStandIn t=false by simpa using List.all_eq_true.1 hall t hm)⟩)
   kr
theorem proved:Rows.TreePrintsCardSaid:=card
end
end Go.Proofs.YtafjkbbiaopemaaGreatDoor.treePrints
