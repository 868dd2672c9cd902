/- Part of the proof. -/
import Derived.Test.YtpgpaenloaphaaaGreatPkx50
set_option maxRecDepth 100000
set_option maxHeartbeats 0
namespace Go.Proofs.YtpgpaenloaphaaaGreat
open Go.RowKit
section
theorem zxj(v:Value):Instr.loadAt 121 v=ldAt 121 v:=rfl
theorem ldq_an(v:Value):Instr.loadAt 81 v=ldAt 81 v:=rfl
attribute [local go_sem ↓] zxj ldq_an
def zHo:Ho:=⟨ByteArray.empty,0,List.replicate 32 0,List.replicate 32 0,0,0⟩
theorem zh9:zHo.ok:=⟨by decide,rfl,rfl,by decide,by decide⟩
theorem zc83:Tryz.zeroCells83 = zHo.node.toArray:=by kernel_rfl
theorem zc85:Tryz.zeroCells85 = zHo.cells.toArray:=by kernel_rfl
theorem zc121:Tryz.zeroCells121 = zHo.cells.toArray:=by kernel_rfl
theorem hd121:(Tryz.prog.info? 121).map (·.size)=some 68:=by kernel_rfl
theorem hd81:(Tryz.prog.info? 81).map (·.size)=some 66:=by kernel_rfl
theorem z1ho:(Tryz.prog.info? 85).map (fun i=>((i.zero.map (fun z=>z.cells.size)),i.size))=some (some 68,68):=by kernel_rfl
theorem eHop:ElemIs Tryz.prog 85 68 104:=ElemIs.of (z:=.agg zHo.cells.toArray) kr (by show zHo.cells.toArray.size=68;rw[List.size_toArray,Ho.cells_len zh9]) om
theorem pl83(fields:Array Field)(h:Tryz.prog.underlying 83 = some (.struct fields))(w:World):(fields.mapM (fun f=>do pure (f.offset,←sizeOf f.type)):Sem (Array (Nat × Nat))).run Tryz.prog w=.ok #[(0,66)] w:=by
 rw[Tryz.underlying83]at h
 injection h with h
 injection h with h
 subst h
 kernel_rfl
theorem pl85(fields:Array Field)(h:Tryz.prog.underlying 85 = some (.struct fields))(w:World):(fields.mapM (fun f=>do pure (f.offset,←sizeOf f.type)):Sem (Array (Nat × Nat))).run Tryz.prog w=.ok #[(0,66),(66,1),(67,1)] w:=by
 rw[Tryz.underlying85]at h
 injection h with h
 injection h with h
 subst h
 kernel_rfl
theorem bld_dn(N:List Value)(hN:N.length=66)(w:World):(Instr.build 83 [(0,(.agg N.toArray:Value))].toArray).run Tryz.prog w=.ok (.agg N.toArray) w:=by
 refine zce Tryz.zeroValue83 Tryz.underlying83 (pl83 _ Tryz.underlying83) ?_ w;rw[zc83]
 show Instr.fill _ _ [(0,_)]=_
 rw[za5 (cs:=N) rfl (by rw[hN];rfl) (by rw[hN,Ho.node_len zh9];omega),zao _ _ (by rw[hN,Ho.node_len zh9])]
 rfl
theorem bld_dh(N:List Value)(D F:Int)(hN:N.length=66)(w:World):(Instr.build 85 [(0,(.agg N.toArray:Value)),(1,.int .i64 D),(2,.int .i64 F)].toArray).run Tryz.prog w=.ok (.agg (N++[Value.int .i64 D,Value.int .i64 F]).toArray) w:=by
 refine zce Tryz.zeroValue85 Tryz.underlying85 (pl85 _ Tryz.underlying85) ?_ w;rw[zc85];have z0:=Ho.cells_len zh9;have l1:(splice zHo.cells 0 N).length=68:=by rw[length_splice _ _ _ (by rw[hN,z0];omega),z0]
 have l2:(splice (splice zHo.cells 0 N) 66 [Value.int .i64 D]).length=68:=by rw[length_splice _ _ _ (by rw[l1];simp),l1]
 show Instr.fill _ _ [(0,_),(1,_),(2,_)]=_
 rw[za5 (cs:=N) rfl (by rw[hN];rfl) (by rw[hN,z0];omega),za5 (cs:=[Value.int .i64 D]) rfl rfl (by rw[l1];simp),za5 (cs:=[Value.int .i64 F]) rfl rfl (by rw[l2];simp)];rw[splice_splice_splice _ _ _ _ 66 1 hN rfl (by rw[z0];rfl)]
 rfl
theorem zui(A:Option Addr)(n c:Nat)(hs:List Ho)(w:World)(h:RdS 68 w A n (hs.flatMap Ho.cells))(hok:∀s∈hs,s.ok)(hl:hs.length=n)(hn:n*104≤140737488355328):
 Calls Tryz.prog 30 #[.slice A n c] w fun e w'=>∃A' c',e=.returned (.slice A' n c')∧n≤c'∧w'.ownsRow w.heap.size 85 68 (.slice A' n c') n (hs.flatMap Ho.cells)∧Below w.heap.size w w':=by
 have HR:=qh h;have HK:=qh hok;have HL:=qh hl;have HO0:Hid (w.ownsRow w.heap.size 85 68 (.slice none 0 0) 0 ((hs.take 0).flatMap Ho.cells)):=World.ownsRow_nil _ _ _ _;clear h hok hl
 go_enter Tryz.func30, Tryz.ntmps30
 go_wp2
 go_loopg [3,8] n (fun kk v q wr=>∃k:Nat,k≤n∧kk=n-k∧q=.int .i64 k∧(∃A' c',v=.slice A' k c'∧k≤c'∧wr.ownsRow w.heap.size 85 68 (.slice A' k c') k ((hs.take k).flatMap Ho.cells))∧Below w.heap.size w wr)
 case atStart=>exact⟨0,by omega,rfl,rfl,⟨none,0,rfl,by omega,HO0.out⟩,Below.refl _ _⟩
 case round =>
  clear HO0;obtain⟨k,hk,hgk,rfl,⟨A',c',rfl,hc',hown⟩,hB⟩:=hrel;have HGK:=qh hgk;clear hgk
  by_cases hlt:k<n
  · have hlt2:(k:Int)<(n:Int):=om
    obtain⟨o,ho⟩:∃o,hs[k]? = some o:=⟨_,ge9 (by rw[HL.out];omega)⟩;have hoo:=HK.out o (mg9 ho);obtain⟨b,off,rfl,hb2,hrg⟩:=zbs (HR.out.bel hB lr) HK.out ho om;have HCL:=qh (Ho.cells_len hoo);have hld:(ldAt 121 (.pointer (some ⟨b,off+k*68,none⟩))).run Tryz.prog wr=.ok (.agg o.cells.toArray) wr:=run_loadAt_mid wr b (off+k*68) 121 o.cells _ hrg Tryz.underlying121 rfl (by rw[HCL.out];exact hd121);have HNX:Hid ((hs.take k).flatMap Ho.cells++o.cells=(hs.take (k+1)).flatMap Ho.cells):=by show _=_;rw[List.take_add_one,ho];simp
    have HC1:=qh (Ho.cells_one o);have HB1:=qh (fun W=>bld_dn o.node (Ho.node_len hoo) W);have HB2:Hid (∀W,(Instr.build 85 [(0,(.agg o.node.toArray:Value)),(1,.int .i64 o.dl),(2,.int .i64 o.fl)].toArray).run Tryz.prog W=.ok (.agg o.cells.toArray) W):=fun W=>bld_dh o.node o.dl o.fl (Ho.node_len hoo) W
    have HD1:=qh (Ho.at_dl hoo);have HD2:=qh (Ho.at_fl hoo);have HLN:Hid (∀W G,Blk W G 121 o.cells→(ldAt 81 (.pointer (some ⟨G,0,none⟩))).run Tryz.prog W=.ok (.agg o.node.toArray) W):=fun W G hb=>zat hb _ 0 o.node (by rw[Ho.node_len hoo];exact Ho.at_node hoo) _ Tryz.underlying81 rfl (by rw[Ho.node_len hoo];exact hd81)
    generalize o.cells=C at *;generalize o.node=N at *;generalize o.dl=D at *;generalize o.fl=F at *;have HI2:Hid ((Tryz.prog.info? 85).map (fun i=>((i.zero.map (fun z=>z.cells.size)),i.size))=some (some C.length,C.length)):=by rw[HCL.out];exact z1ho
    have HOW:=qh hown;have HB:=qh hB;have hbs:=hB.size;clear ho hoo hrg hown hB
    go_wp2_with (first
     | (refine zab rfl 121 (.tmp 5) (.tmp 11) rfl wr.heap.size C rr rr 121 zHo.cells (by exact Blk.new' rfl zc121) (by rw[HCL.out];exact hd121) HC1.out (by rw[HCL.out,Ho.cells_len zh9]) ?_;intro w1 hb1 ho1;have HE1:=qh (ho1.below (HB.out.alloc hbs _) hbs (Nat.le_trans hbs sy));have HO1:=qh (zc4 (HOW.out.alloc _) ho1 (fun k hk=>by have h9:=(HOW.out.lt k hk).2;omega));have l1:=HLN.out _ _ hb1;have c1:w1.cell? ⟨wr.heap.size,66,none⟩=some (.int .i64 D):=by rw[hb1.cell];exact HD1.out
        have c2:w1.cell? ⟨wr.heap.size,67,none⟩=some (.int .i64 F):=by rw[hb1.cell];exact HD2.out
        clear hb1 ho1)
     | (refine zaq rfl 83 [(0,.tmp 14)] rfl _ rr (.agg N.toArray) (HB1.out _) ?_)
     | (refine zaq rfl 85 [(0,.tmp 15),(1,.tmp 17),(2,.tmp 19)] rfl _ rr (.agg C.toArray) (HB2.out _) ?_)
     | (refine zb2 rfl 65 85 (.tmp 20) rfl C rr Tryz.underlying65 HI2.out (by rw[HCL.out];omega) (by rw[HCL.out];omega) ?_)
     | (at_builtin;refine zah rfl (.tmp 12) (.tmp 21) 65 rfl w.heap.size 85 68 104 Tryz.underlying65 eHop (.slice A' k c') k _ rr (by exact HO1.out.alloc _) (some ⟨w1.heap.size,0,none⟩) 1 1 C rr (by exact RdS.new w1 _ C 68 HCL.out) HC1.out om om (by exact Nat.le_trans HE1.out.size sy) ?_;intro A4 c4 w4 hown4 hc4 hg4 hat4;have HE4:=qh ((HE1.out.alloc HE1.out.size _).grown hg4 (Nat.le_trans HE1.out.size sy) (fun k hk=>(HOW.out.lt k hk).1));rw[HNX.out]at hown4;have HO4:=qh hown4;clear hown4 hg4 hat4))
    go_roundg (n-(k+1))
    case measure=>have:=HGK.out;omega
    case rel=>exact⟨k+1,by omega,rfl,by go_num,⟨A4,c4,rfl,hc4,HO4.out⟩,HE4.out⟩
  · obtain rfl:k=n:=om
    have hlt2:¬(k:Int)<(k:Int):=om;rw[tk (by rw[HL.out];exact lr)]at hown;have HOW:=qh hown;clear hown;go_wp2;go_ret;exact⟨A',c',rfl,hc',HOW.out,hB⟩
end
noncomputable def pbR(last:Cm)(xs bs:List UInt8)(hs:List Ho):List UInt8:=if pbE last xs bs hs=0 then pbL last xs bs hs else z768
theorem zqx{last:Cm}(hc:last.ok){xs bs:List UInt8}{hs:List Ho}(hok:∀s∈hs,s.ok):(pbR last xs bs hs).length=768:=by
 unfold pbR
 split
 · rename_i h
   exact zww hc hok h
 · exact zck
theorem zot(A B H:Option Addr)(na ca nb cb n c:Nat)(xs bs:List UInt8)(last:Cm)(hc:last.ok)(hs:List Ho)(w:World)(hx:Rd w A na (u8s xs))(hca:na≤ca)(hb:Rd w B nb (u8s bs))(hcb:nb≤cb)(hh:RdS 68 w H n (hs.flatMap Ho.cells))(hok:∀s∈hs,s.ok)(hl:hs.length=n)(hn:n≤1400000000000):
 Calls Tryz.prog 29 #[.slice A na ca,.agg last.cells.toArray,.slice B nb cb,.slice H n c] w fun e w'=>e=.returned (.tuple #[.agg (u8s (pbR last xs bs hs)).toArray,.int .i64 (pbE last xs bs hs:Int)])∧Below w.heap.size w w':=by
 by_cases he:pbE last xs bs hs=0
 · have h5:=zos A B H na ca nb cb n c xs bs last hc hs w hx hca hb hcb hh hok hl he
   rw[pbR,if_pos he,he];exact h5
 · have h5:=zqw A B H na ca nb cb n c xs bs last hc hs w hx hca hb hh hok hl hn he
   rw[pbR,if_neg he];exact h5
theorem zv5(A B H:Option Addr)(na ca nb cb n c:Nat)(xs bs:List UInt8)(last:Cm)(hc:last.ok)(hs:List Ho)(w:World)(hx:Rd w A na (u8s xs))(hca:na≤ca)(hb:Rd w B nb (u8s bs))(hh:RdS 68 w H n (hs.flatMap Ho.cells))(hok:∀s∈hs,s.ok)(hl:hs.length=n)(hn:n≤1400000000000):
 Calls Tryz.prog 31 #[.slice A na ca,.agg last.cells.toArray,.slice B nb cb,.slice H n c] w fun e w'=>∃A' n' c',e=.returned (.tuple #[.slice A' n' c',.int .i64 (pbE last xs bs hs:Int)])∧(pbE last xs bs hs=0→n'=768∧768≤c'∧Rd w' A' 768 (u8s (pbR last xs bs hs)))∧Below w.heap.size w w':=by
 by_cases he:pbE last xs bs hs=0
 · refine(zv4 A B H na ca nb cb n c xs bs last hc hs w hx hca hb hh hok hl he).mono ?_
   rintro e w' ⟨A',c',rfl,hc',hr,hB⟩;refine⟨A',768,c',by rw[he];rfl,fun _=>⟨rfl,hc',?_⟩,hB⟩;rw[pbR,if_pos he];exact hr
 · refine(rpk_no A B H na ca nb cb n c xs bs last hc hs w hx hca hb hh hok hl hn he).mono ?_
   rintro e w' ⟨rfl,hB⟩;exact⟨none,0,0,rfl,fun h=>absurd h he,hB⟩
theorem zst(last:Cm)(hc:last.ok)(xs bs:List UInt8)(hs:List Ho)(hok:∀s∈hs,s.ok)(B:Option Addr)(n c:Nat)(w:World)(h:pbE last xs bs hs=0→n=768∧Rd w B 768 (u8s (pbR last xs bs hs))):
 Calls Tryz.prog 32 #[.agg (u8s (pbR last xs bs hs)).toArray,.int .i64 (pbE last xs bs hs:Int),.slice B n c,.int .i64 (pbE last xs bs hs:Int)] w fun e w'=>e=.returned (.bool true)∧Below w.heap.size w w':=by
 by_cases he:pbE last xs bs hs=0
 · obtain⟨rfl,hr⟩:=h he
   have hl:(pbR last xs bs hs).length=768:=zqx hc hok;rw[he];exact zvu _ hl B c w hr
 · rw[pbR,if_neg he]
   exact zss _ he B n c w
theorem zxo(A:Option Addr)(n c:Nat)(hs:List Ho)(w:World)(h:RdS 68 w A n (hs.flatMap Ho.cells))(hok:∀s∈hs,s.ok)(hl:hs.length=n)(hn:n*104≤140737488355328):
 Calls Tryz.prog 30 #[.slice A n c] w fun e w'=>∃A' c',e=.returned (.slice A' n c')∧RdS 68 w' A' n (hs.flatMap Ho.cells)∧Below w.heap.size w w':=by
 refine(zui A n c hs w h hok hl hn).mono ?_;rintro e w' ⟨A',c',rfl,_,ho,hB⟩;exact⟨A',c',rfl,RdS.ofOwn2 ho,hB⟩
theorem znm(A B:Option Addr)(n c d:Nat)(l:List UInt8)(w:World)(h:Rd w A (n+40) (u8s (l++spr n 40)))(h2:Rd w B n (u8s l))(hn:n≤140737488351232):
 Calls Tryz.prog 34 #[.slice A (n+40) c,.slice B n d] w fun e w'=>e=.returned (.bool true)∧∃q,w'=w.drewN q:=by
 have hl:=h2.len;have HR:=qh h;have HB:=qh h2;have HL:=qh hl;clear h h2 hl
 go_enter Tryz.func34, Tryz.ntmps34
 go_wp2_with fail
 go_loopg [5] (n+40) (fun kk q wr=>∃i qq:Nat,i≤n+40∧kk=n+40-i∧q=.int .i64 (i:Int)∧wr=w.drewN qq)
 case atStart=>exact⟨0,0,by omega,rfl,rfl,rfl⟩
 case round =>
  obtain⟨i,qq,hi,hgk,rfl,rfl⟩:=hrel;have HGK:=qh hgk;clear hgk
  by_cases hlt:i<n+40
  · have hlt2:(i:Int)<(n:Int)+40:=om
    have hi0:(0:Int)≤(i:Int):=om;obtain⟨b1,o1,x,rfl,hb1,HX,cx⟩:=HR.out.u8 hlt
    by_cases hin:i<n
    · have hin2:(i:Int)<(n:Int):=om
      obtain⟨b2,o2,y,rfl,hb2,HY,cy⟩:=HB.out.u8 hin
      have hxy:y=x:=by
       have h5:=HX.out;rw[ll9 (by rw[HL.out];exact hin),HY.out]at h5
       injection h5
      subst hxy;have e1:((y.toNat:Int) != (y.toNat:Int))=false:=by simp
      have hge:¬(n:Int)≤(i:Int):=om;have hdg:decide (n≤i)=false:=decide_eq_false om;have cx':(w.drewN qq).cell? ⟨b1,o1+i,none⟩=some (.int .u8 y.toNat):=cx;have cy':(w.drewN qq).cell? ⟨b2,o2+i,none⟩=some (.int .u8 y.toNat):=cy
      go_wp2_with fail
      go_quiet (fail)
      go_wp2_with fail
      go_roundg (n+40-(i+1))
      case measure=>have:=HGK.out;omega
      case rel=>exact⟨i+1,qq+nq,by omega,rfl,by go_num,by first|rfl|rw[World.drewN_drewN]⟩
    · have hin2:¬(i:Int)<(n:Int):=om
      have hge:(n:Int)≤(i:Int):=om;have hdg:decide (n≤i)=true:=decide_eq_true om;obtain⟨r,hr⟩:=ex9 (i%31)
      have hx:x=UInt8.ofNat (160+r):=by
       have h5:=HX.out;rw[ar9 (by rw[HL.out];omega),HL.out,zvx n 40 _ om,show n+(i-n)=i by omega]at h5
       injection h5 with h5
       rw[hr];exact h5.symm
      have hxn:((x.toNat:Nat):Int)=160+(r:Int):=by rw[hx,UInt8.toNat_ofNat'];omega
      have hm:(i:Int).tmod 31=(r:Int):=by rw[Int.tmod_eq_emod_of_nonneg hi0];omega
      have hw1:IntKind.i64.wrap ((160:Int)+(r:Int))=160+(r:Int):=IntWalk.i64_in _ om;have hw2:IntKind.u8.wrap ((160:Int)+(r:Int))=160+(r:Int):=by rw[IntKind.wrap_u8];omega
      rw[hxn]at cx;have cx':(w.drewN qq).cell? ⟨b1,o1+i,none⟩=some (.int .u8 (160+(r:Int))):=cx;have e1:((160+(r:Int)) != (160+(r:Int)))=false:=by simp
      clear hx hxn hr
      go_wp2_with fail
      go_quiet (fail)
      clear hm hw1 hw2
      go_wp2_with fail
      go_roundg (n+40-(i+1))
      case measure=>have:=HGK.out;omega
      case rel=>exact⟨i+1,qq+nq,by omega,rfl,by go_num,by first|rfl|rw[World.drewN_drewN]⟩
  · obtain rfl:i=n+40:=om
    have hlt2:¬((n+40:Nat):Int)<(n:Int)+40:=om
    go_wp2_with fail
    go_ret;exact⟨rfl,qq,rfl⟩
theorem ze8{P:Program}{e:TypeId}{sz:Nat}(ha:∀w,(isAgg e).run P w=.ok true w)(hs:∀w,(sizeOf e).run P w=.ok sz w)(l:List Value)(off:Nat)(w:World):(part e l.toArray off).run P w=.ok (.agg ((l.drop off).take sz).toArray) w:=by
 unfold part
 simp only[Sem.run_bind,ha,hs,Result.andThen_ok,if_true,Sem.run_pure]
 congr 2
 rw[List.extract_toArray,List.extract_eq_take_drop,Nat.add_sub_cancel_left]
theorem eqIn32z(d:Nat)(x:List UInt8)(hx:x.length=32)(w:World):(Op.equalIn (d+2) 23 (.agg (u8s x).toArray) (.agg (u8s x).toArray)).run Tryz.prog w=.ok true w:=by
 obtain⟨i,hi⟩:∃i,Tryz.prog.info? 5 = some i:=Option.isSome_iff_exists.1 kr;have hc:Tryz.prog.cellsOf 5 = 1:=by kernel_rfl
 rw[run_equalIn_array w (d+1) _ _ Tryz.underlying23 hi,hc,List.range_eq_range',←hx,zd4 d 5 kr Tryz.underlying5 x x rfl w x.length 0 om]
 simp
theorem eqInNode(d:Nat)(h:Ho)(hk:h.ok)(w:World):(Op.equalIn (d+3) 81 (.agg h.node.toArray) (.agg h.node.toArray)).run Tryz.prog w=.ok true w:=by
 have hf:Tryz.prog.underlying 81 = some (.struct (Tryz.prog.fieldsOf 81)):=by kernel_rfl
 rw[run_equalIn_struct w (d+2) _ _ _ hf kr];refine zb5 (d+2) _ w _ fun f hf=>?_
 unfold Program.fieldsOf at hf
 rw[Tryz.underlying81]at hf;simp only[List.mem_cons,List.not_mem_nil,or_false]at hf
 rcases hf with rfl|rfl|rfl|rfl
 · exact⟨.string h.nm,run_part_plain w kr rfl,by rw[run_equalIn_string w (d+1) _ _ _ Tryz.underlying9];simp⟩
 · exact⟨.int .u64 (h.id:Int),run_part_plain w kr rfl,by rw[run_equalIn_int w (d+1) _ .u64 .u64 _ _ Tryz.underlying45];simp⟩
 · refine⟨_,ze8 (sz:=32) (fun w=>by kernel_rfl) (fun w=>by kernel_rfl) _ _ w,?_⟩
   rw[show(h.node.drop 2).take 32=u8s h.priv from by rw[Ho.node];show((u8s h.priv++u8s h.pub)).take 32=_;rw[List.take_left' (by rw[zaa,hk.2.1])]];exact eqIn32z d _ hk.2.1 w
 · refine⟨_,ze8 (sz:=32) (fun w=>by kernel_rfl) (fun w=>by kernel_rfl) _ _ w,?_⟩
   rw[show(h.node.drop 34).take 32=u8s h.pub from by rw[Ho.node];show((u8s h.priv++u8s h.pub).drop 32).take 32=_;rw[List.drop_left' (by rw[zaa,hk.2.1]),tk (by rw[zaa,hk.2.2.1];exact lr)]];exact eqIn32z d _ hk.2.2.1 w
theorem eqInDNode(d:Nat)(h:Ho)(hk:h.ok)(w:World):(Op.equalIn (d+4) 83 (.agg h.node.toArray) (.agg h.node.toArray)).run Tryz.prog w=.ok true w:=by
 have hf:Tryz.prog.underlying 83 = some (.struct (Tryz.prog.fieldsOf 83)):=by kernel_rfl
 rw[run_equalIn_struct w (d+3) _ _ _ hf kr];refine zb5 (d+3) _ w _ fun f hf=>?_
 unfold Program.fieldsOf at hf
 rw[Tryz.underlying83]at hf;simp only[List.mem_cons,List.not_mem_nil,or_false]at hf;subst hf;refine⟨_,ze8 (sz:=66) (fun w=>by kernel_rfl) (fun w=>by kernel_rfl) _ _ w,?_⟩;rw[List.drop_zero,tk (by rw[Ho.node_len hk];exact lr)];exact eqInNode d h hk w
theorem eqInHop(d:Nat)(h:Ho)(hk:h.ok)(w:World):(Op.equalIn (d+5) 85 (.agg h.cells.toArray) (.agg h.cells.toArray)).run Tryz.prog w=.ok true w:=by
 have hf:Tryz.prog.underlying 85 = some (.struct (Tryz.prog.fieldsOf 85)):=by kernel_rfl
 rw[run_equalIn_struct w (d+4) _ _ _ hf kr];refine zb5 (d+4) _ w _ fun f hf=>?_
 unfold Program.fieldsOf at hf
 rw[Tryz.underlying85]at hf;simp only[List.mem_cons,List.not_mem_nil,or_false]at hf
 rcases hf with rfl|rfl|rfl
 · refine⟨_,ze8 (sz:=66) (fun w=>by kernel_rfl) (fun w=>by kernel_rfl) _ _ w,?_⟩
   rw[Ho.at_node hk];exact eqInDNode d h hk w
 · exact⟨.int .i64 h.dl,run_part_plain w kr (by simpa using Ho.at_dl hk),by rw[run_equalIn_int w (d+3) _ .i64 .i64 _ _ Tryz.underlying3];simp⟩
 · exact⟨.int .i64 h.fl,run_part_plain w kr (by simpa using Ho.at_fl hk),by rw[run_equalIn_int w (d+3) _ .i64 .i64 _ _ Tryz.underlying3];simp⟩
theorem neHop(h:Ho)(hk:h.ok)(w:World):(neAt 85 (.agg h.cells.toArray) (.agg h.cells.toArray)).run Tryz.prog w=.ok (.bool false) w:=by
 unfold neAt
 rw[run_neq_struct];have h5:=eqInHop 9995 h hk w
 show(((Op.equalIn (9995+5) 85 (.agg h.cells.toArray) (.agg h.cells.toArray)).run Tryz.prog w).andThen _)=_
 rw[h5]
 rfl
theorem zw8(x y:Value):binOp .neq 85 x y=neAt 85 x y:=rfl
end Go.Proofs.YtpgpaenloaphaaaGreat
namespace Go.Proofs.YtpgpaenloaphaaaGreat.packetKeeps
open Go.RowKit
section
theorem zxk(v:Value):Instr.loadAt 85 v=ldAt 85 v:=rfl
attribute [local go_sem ↓] zrq zxk zw8
theorem znp:(Tryz.prog.info? 85).map (·.size)=some 68:=by kernel_rfl
theorem szHop(w:World):(sizeOf 85).run Tryz.prog w=.ok 68 w:=by kernel_rfl
theorem ex_neq{o:Oper}{a:Act}{w:World}{t t':TypeId}{x y:Operand}{xs ys:Array Value}{v:Value}(ho:o.op=.binOp .neq t x y t')(hx:a.eval x=.agg xs)(hy:a.eval y=.agg ys)(hm:Tryz.prog.eqGuardType Tryz.prog.depth t=false)(h:(neAt t (.agg xs) (.agg ys)).run Tryz.prog w=.ok v w):(execOp a.eval o).run Tryz.prog w=.ok (.value v) w:=by
 unfold execOp
 have h2:(binOp .neq t (.agg xs) (.agg ys)).run Tryz.prog w=.ok v w:=h
 simp[ho,hx,hy,run_eqGuard_agg w .neq t x y xs ys hm,h2]
theorem zm0{w:World}{g n:Nat}{l:List UInt8}(h:Blk w g 5 (u8s (l++spr n 40)))(hl:l.length=n):Rd w (some ⟨g,0,none⟩) n (u8s l):=by
 have h5:=h.rd 0 n (by rw[zaa,la9,zcy,hl];omega);rw[List.drop_zero,zav,List.take_left' hl]at h5;exact h5
theorem walk0(A B H:Option Addr)(na ca nb cb n c:Nat)(xs bs:List UInt8)(hs:List Ho)(R:List UInt8)(E:Nat)(w:World)(hx:Rd w A na (u8s xs))(hb:Rd w B nb (u8s bs))(hna:na≤140737488351232)(hnb:nb≤140737488351232)(hh:RdS 68 w H n (hs.flatMap Ho.cells))(hok:∀s∈hs,s.ok)(hl:hs.length=n)(hn:n*104≤140737488351232)(hrl:R.length=768)
 (hpb:∀W A1 c1 B1 d1 H1 e1,Rd W A1 na (u8s xs)→na≤c1→Rd W B1 nb (u8s bs)→nb≤d1→RdS 68 W H1 n (hs.flatMap Ho.cells)→Calls Tryz.prog 29 #[.slice A1 na c1,.agg #[.int .u8 2,.int .u8 0,.int .u32 0,.int .u64 0,.int .u8 0,.int .u8 0,.int .u8 0,.int .u8 0,.int .u8 0,.int .u8 0,.int .u8 0,.int .u8 0,.int .u8 0,.int .u8 0,.int .u8 0,.int .u8 0,.int .u8 0,.int .u8 0,.int .u8 0,.int .u8 0],.slice B1 nb d1,.slice H1 n e1] W fun e w'=>e=.returned (.tuple #[.agg (u8s R).toArray,.int .i64 (E:Int)])∧Below W.heap.size W w')
 (hrb:∀W,Below w.heap.size w W→Calls Tryz.prog 31 #[.slice A na ca,.agg #[.int .u8 2,.int .u8 0,.int .u32 0,.int .u64 0,.int .u8 0,.int .u8 0,.int .u8 0,.int .u8 0,.int .u8 0,.int .u8 0,.int .u8 0,.int .u8 0,.int .u8 0,.int .u8 0,.int .u8 0,.int .u8 0,.int .u8 0,.int .u8 0,.int .u8 0,.int .u8 0],.slice B nb cb,.slice H n c] W fun e w'=>∃A' n' c',e=.returned (.tuple #[.slice A' n' c',.int .i64 (E:Int)])∧(E=0→n'=768∧Rd w' A' 768 (u8s R))∧Below W.heap.size W w')
 (htd:∀W B5 n5 c5,(E=0→n5=768∧Rd W B5 768 (u8s R))→Calls Tryz.prog 32 #[.agg (u8s R).toArray,.int .i64 (E:Int),.slice B5 n5 c5,.int .i64 (E:Int)] W fun e w'=>e=.returned (.bool true)∧Below W.heap.size W w'):
 Calls Tryz.prog 7 #[.slice A na ca,.slice B nb cb,.slice H n c] w fun e w'=>e=.returned (.bool true)∧Below w.heap.size w w':=by
 have HX:=qh hx;have HBB:=qh hb;have HXL:Hid (xs.length=na):=hx.len;have HBL:Hid (bs.length=nb):=hb.len;have HPB:=qh hpb;have HRB:=qh hrb;have HTD:=qh htd;have HRL:=qh hrl;have HK:=qh hok;have HL:=qh hl;have HHO:Hid (∀W,Below w.heap.size w W→Calls Tryz.prog 30 #[.slice H n c] W fun e w'=>∃A' c',e=.returned (.slice A' n c')∧RdS 68 w' A' n (hs.flatMap Ho.cells)∧Below W.heap.size W w'):=fun W hW=>zxo H n c hs W (hh.bel hW lr) hok hl om
 obtain⟨Z,HZ,HZl⟩:∃Z:List Value,Hid (Tryz.zeroCells35 = Z.toArray)∧Hid (Z.length=768):=⟨u8s z768,zc76z,by show(u8s _).length=_;rw[zaa];exact zck⟩;have HIR:Hid ((Tryz.prog.info? 35).map (·.size)=some (u8s R).length):=by show _=_;rw[zaa,HRL.out];exact hd76
 have HFR2:Hid ((u8s R).length=Z.length):=by show _=_;rw[zaa,HRL.out,HZl.out]
 clear hx hb hpb hrb htd hrl hh hok hl
 go_enter Tryz.func7, Tryz.ntmps7
 go_wp2_with (first
  | (go_at_call 10;refine(awake14 _).mono ?_;rintro e w1 ⟨rfl,hB1⟩;have HE1:=qh hB1;clear hB1)
  | (go_at_call 33;(refine(zkk B nb cb bs w2 (HBB.out.below HE2.out) hnb).mono ?_);rintro e w3 ⟨rfl,hb3,hB3⟩;have HFB3:=qh hb3;have HFA3:=qbl HFA2 hB3;have HE3:=qtr HE2 hB3;have HS3:Hid (w.heap.size≤w1.heap.size∧w1.heap.size<w2.heap.size∧w2.heap.size<w3.heap.size):=⟨HE1.out.size,HFA2.out.lt,hb3.lt⟩;clear hb3 hB3)
  | (go_at_call 33;(refine(zkk A na ca xs w1 (HX.out.below HE1.out) hna).mono ?_);rintro e w2 ⟨rfl,hb2,hB2⟩;have HFA2:=qh hb2;have HE2:=qtr HE1 hB2;clear hb2 hB2)
  | (go_at_call 30;(refine(HHO.out w6 (by exact HE6.out)).mono ?_);rintro e w7 ⟨A7,c7,rfl,hr7,hB7⟩;have HE7:=qtr HE6 hB7;have HH7:=qh hr7;have HG7:=qh (HG6.out.belo hB7);have HFA7:=qbl HFA6 hB7;have HFB7:=qbl HFB6 hB7;have HP7:=qbl HP6 hB7;clear hr7 hB7)
  | (go_at_call 30;(refine(HHO.out w3 (by exact HE3.out)).mono ?_);rintro e w4 ⟨A4,c4,rfl,hr4,hB4⟩;have HE4:=qtr HE3 hB4;have HG4:=qh hr4;have HFA4:=qbl HFA3 hB4;have HFB4:=qbl HFB3 hB4;have HRA4:=qh (zm0 HFA4.out HXL.out);have HRB4:=qh (zm0 HFB4.out HBL.out);clear hr4 hB4)
  | (go_at_call 29;(refine(HPB.out _ _ _ _ _ _ _ (by exact HRA4.out) om (by exact HRB4.out) om (by exact HG4.out)).mono ?_);rintro e w5 ⟨rfl,hB5⟩;have HE5:=qtr HE4 hB5;have HFA5:=qbl HFA4 hB5;have HFB5:=qbl HFB4 hB5;have HG5:=qh (HG4.out.belo hB5);clear hB5)
  | (refine zab rfl 35 (.tmp 12) (.tmp 41) rfl w5.heap.size (u8s R) rr rr 35 Z (by exact Blk.new' rfl HZ.out) HIR.out (zac _) HFR2.out ?_;intro w6 hb6 ho6;have hD6:Below w5.heap.size w5 w6:=ho6.below ((Below.refl _ w5).alloc lr _) lr sy;have HE6:=qtr HE5 hD6;have HFA6:=qbl HFA5 hD6;have HFB6:=qbl HFB5 hD6;have HG6:=qh (HG5.out.belo hD6);have HP6:=qh hb6;clear hb6 ho6 hD6))
 go_loopg [46] n (fun kk q wr=>∃i:Nat,i≤n∧kk=n-i∧q=.int .i64 (i:Int)∧Below w7.heap.size w7 wr)
 case atStart=>exact⟨0,by omega,rfl,rfl,Below.refl _ _⟩
 case round =>
  obtain⟨i,hi,hgk,rfl,hBr⟩:=hrel;have HGK:=qh hgk;have HBR:=qh hBr;clear hgk hBr
  by_cases hlt:i<n
  · have hlt2:(i:Int)<(n:Int):=om
    obtain⟨h,hsi⟩:∃h,hs[i]? = some h:=⟨_,ge9 (by rw[HL.out];omega)⟩;have hok:=HK.out h (mg9 hsi);obtain⟨b7,o7,rfl,hb7,hr7⟩:=zbs (HH7.out.bel HBR.out lr) HK.out hsi om;obtain⟨b4,o4,rfl,hb4,hr4⟩:=zbs (HG7.out.bel HBR.out lr) HK.out hsi om;have hsl:=Ho.cells_len hok;have HNE:=qh (fun W=>neHop h hok W);have HC1:=qh (Ho.cells_one h);have HZL:Hid (zHo.cells.length=68):=Ho.cells_len zh9;generalize h.cells=CH at *;have HSL:=qh hsl;have hl7:(ldAt 85 (.pointer (some ⟨b7,o7+i*68,none⟩))).run Tryz.prog wr=.ok (.agg CH.toArray) wr:=run_loadAt_mid wr b7 (o7+i*68) 85 CH _ hr7 Tryz.underlying85 rfl (by rw[hsl];exact znp);have HKR:Hid (∀W,Below wr.heap.size wr W→W.rangeAt b4 (o4+i*68) CH):=fun W hB j v hv=>(hB.cell (p:=⟨b4,o4+i*68+j,none⟩) hb4).trans (hr4 j v hv)
    clear hsi hok hr7 hr4 hsl hb7 hb4
    go_wp2_with (first
     | (refine zab rfl 85 (.tmp 15) (.tmp 50) rfl wr.heap.size CH rr rr 85 zHo.cells (by exact Blk.new' rfl zc85) (by rw[HSL.out];exact znp) HC1.out (by rw[HSL.out,HZL.out]) ?_;intro w8 hb8 ho8;have hD8:Below wr.heap.size wr w8:=ho8.below ((Below.refl _ wr).alloc lr _) lr sy;have HD8:=qh hD8;have HC8:=qh hb8;clear hb8 ho8 hD8))
    have hT:(w8.drew.rangeAt b4 (o4+i*68) CH)∧Blk w8.drew wr.heap.size 85 CH:=⟨HKR.out _ HD8.out.drew,HC8.out.drew⟩;refine kgo kr 5 (fun W=>W.rangeAt b4 (o4+i*68) CH∧Blk W wr.heap.size 85 CH) hT (fun _ _ _ _ _ h=>h) ?_;refine kp 0 (.slice (some ⟨b4,o4,none⟩) n c4) rfl kr (fun _=>kr) ?_;refine kp 1 (.int .i64 (i:Int)) rfl kr (fun _=>kr) ?_;refine kp 2 (.pointer (some ⟨b4,o4+i*68,none⟩)) rfl kr (fun _=>zbq (t:=65) (e:=85) (x:=.tmp 51) (y:=.tmp 52) (n:=n) (c:=c4) (sz:=68) rr kr kr hlt Tryz.underlying65 szHop) ?_;refine kl 3 (.agg CH.toArray) rfl kr (fun w' hw'=>zag (x:=.tmp 53) rr kr (run_loadAt_mid w' b4 (o4+i*68) 85 CH _ hw'.1 Tryz.underlying85 rfl (by rw[HSL.out];exact znp))) ?_;refine kl 4 (.agg CH.toArray) rfl kr (fun w' hw'=>zag (x:=.tmp 15) rr kr (run_loadAt_mid w' wr.heap.size 0 85 CH _ hw'.2.range Tryz.underlying85 rfl (by rw[HSL.out];exact znp))) ?_;intro q8 q9;clear q8 q9;refine AnyK.val 5 (v:=.bool false) rr kr rfl (ex_neq (t:=85) (x:=.tmp 54) (y:=.tmp 55) rr kr kr kr (HNE.out _)) (fun h=>(by cases h)) ?_;refine AnyK.done kr ?_;have HB9:=qh (HBR.out.trans (HD8.out.drew.mono HBR.out.size));clear hT hl7;go_wp2;go_roundg (n-(i+1))
    case measure=>have:=HGK.out;omega
    case rel=>exact⟨i+1,by omega,rfl,by go_num,HB9.out⟩
  · obtain rfl:i=n:=om
    have hlt2:¬(i:Int)<(i:Int):=om;have HER:=qh (HE7.out.trans (HBR.out.mono HE7.out.size));have HFA:=qh (HFA7.out.below HBR.out HFA7.out.lt);have HFB:=qh (HFB7.out.below HBR.out HFB7.out.lt);have HP:=qh (HP7.out.below HBR.out HP7.out.lt);have HS5:Hid (w2.heap.size<w5.heap.size):=Nat.lt_of_lt_of_le HFB5.out.lt lr
    have HFR:∀(W:World) (g n:Nat) (l:List UInt8),Blk W g 5 (u8s (l++spr n 40))→l.length=n→Rd W (some ⟨g,0,none⟩) (n+40) (u8s (l++spr n 40)):=fun W g n l hb hl=>by
     have h5:=hb.rdAll
     rwa [la9,zcy,hl]at h5
    have HKA:=qh (znm (some ⟨w1.heap.size,0,none⟩) A na (na+40) ca xs wr (HFR _ _ _ _ HFA.out HXL.out) (HX.out.below HER.out) hna)
    have HKB:Hid (∀q,Calls Tryz.prog 34 #[.slice (some ⟨w2.heap.size,0,none⟩) (nb+40) (nb+40),.slice B nb cb] (wr.drewN q) fun e w'=>e=.returned (.bool true)∧∃q2,w'=(wr.drewN q).drewN q2):=fun q =>
     znm (some ⟨w2.heap.size,0,none⟩) B nb (nb+40) cb bs (wr.drewN q) ((HFR _ _ _ _ HFB.out HBL.out).drewN q) ((HBB.out.below HER.out).drewN q) hnb
    clear HFR
    go_upto_region 15 with (first
     | (go_at_call 34;(with_reducible refine(HKB.out _).mono ?_);rintro e w12 ⟨rfl,q2,rfl⟩)
     | (go_at_call 34;(with_reducible refine HKA.out.mono ?_);rintro e w11 ⟨rfl,q1,rfl⟩))
    obtain⟨wx,hwx⟩:=ex9 (wr.drewN (q1+q2));rw[←hwx];have HDX:Hid (Below wr.heap.size wr wx):=by rw[hwx];exact below_drewN (Below.refl _ wr) (q1+q2)
    have HPX:=qh (HP.out.below HDX.out HP.out.lt);have HHL:Hid ((R.take 288).length=288):=by show _=_;rw[List.length_take,HRL.out];rfl
    clear hwx HKA HKB;have hT:Blk wx.drew w5.heap.size 35 (u8s R):=HPX.out.drew;refine kgo kr 9 (fun W=>Blk W w5.heap.size 35 (u8s R)) hT (fun _ _ _ _ _ h=>h) ?_;refine kl 0 (.agg (u8s R).toArray) rfl kr (fun w' hw'=>zag (x:=.tmp 12) rr kr (pk_ld hw' HRL.out)) ?_;refine kl 2 (.agg (u8s R).toArray) rfl kr (fun w' hw'=>zag (x:=.tmp 12) rr kr (pk_ld hw' HRL.out)) ?_;refine kp 4 (.pointer (some ⟨w5.heap.size,0,none⟩)) rfl kr (fun _=>kr) ?_;refine kl 5 (.agg (u8s (R.take 288)).toArray) rfl kr (fun w' hw'=>zag (x:=.tmp 72) rr kr (pkh_ld hw' HRL.out)) ?_;intro q8 q9;clear q8 q9;refine AnyK.enter 1 (d:=some 69) (f:=14) (args:=#[.agg (u8s R).toArray]) rr kr kr ?_;refine(zeg R _ HRL.out).mono ?_;rintro e y1 ⟨B1,d1,rfl,hd1,hown1,hY1⟩;have D1:Below wx.heap.size wx y1:=(Below.refl _ wx).drew.trans hY1;have T1:=HPX.out.below D1 HPX.out.lt;refine⟨_,rfl,fun _=>T1,?_⟩;refine AnyK.enter 3 (d:=some 71) (f:=14) (args:=#[.agg (u8s R).toArray]) rr kr kr ?_;refine(zeg R _ HRL.out).mono ?_;rintro e y2 ⟨B2,d2,rfl,hd2,hown2,hY2⟩;have D2:Below wx.heap.size wx y2:=D1.trans (hY2.mono D1.size);have T2:=HPX.out.below D2 HPX.out.lt;refine⟨_,rfl,fun _=>T2,?_⟩;refine AnyK.enter 6 (d:=some 74) (f:=15) (args:=#[.agg (u8s (R.take 288)).toArray]) rr kr kr ?_;refine(ziz (R.take 288) _ HHL.out).mono ?_;rintro e y3 ⟨B3,d3,rfl,hd3,hown3,hY3⟩;have D3:Below wx.heap.size wx y3:=D2.trans (hY3.mono D2.size);have T3:=HPX.out.below D3 HPX.out.lt;refine⟨_,rfl,fun _=>T3,?_⟩;refine AnyK.val 7 (v:=.slice B1 768 d1) rr kr rfl kr (fun _=>T3) ?_;refine AnyK.val 8 (v:=.slice B2 768 d2) rr kr rfl kr (fun _=>T3) ?_;refine AnyK.val 9 (v:=.slice B3 288 d3) rr kr rfl kr (fun h=>(by cases h)) ?_;refine AnyK.done kr ?_;have HEY:=qh (HER.out.trans ((HDX.out.trans (D3.mono HDX.out.size)).mono HER.out.size));have HT3:=qh T3;have s1:wx.heap.size≤y1.heap.size:=D1.size;have s2:y1.heap.size≤y2.heap.size:=hY2.size;have s3:y2.heap.size≤y3.heap.size:=hY3.size;have sx:wr.heap.size≤wx.heap.size:=HDX.out.size;have sa:w1.heap.size<w2.heap.size:=by have:=HS3.out;omega
    have sb:w2.heap.size<wr.heap.size:=HFB.out.lt;have sw:w.heap.size≤w1.heap.size:=HE1.out.size;have HFAy:=HFA.out.below (HDX.out.trans (D3.mono HDX.out.size)) HFA.out.lt;have HFBy:=HFB.out.below (HDX.out.trans (D3.mono HDX.out.size)) HFB.out.lt
    have HAP:Hid (∀W,Below y3.heap.size y3 W→Calls Tryz.prog 35 #[.slice (some ⟨W.heap.size,0,none⟩) 5 5] (W.alloc (.cells #[.slice (some ⟨w1.heap.size,0,none⟩) (na+40) (na+40),.slice (some ⟨w2.heap.size,0,none⟩) (nb+40) (nb+40),.slice B1 768 d1,.slice B2 768 d2,.slice B3 288 d3] 22)) fun e w'=>e=.returned (.bool true)∧Below w.heap.size w w'):=fun W hW=>by
     have oA:W.ownsRow w.heap.size 5 1 (.slice (some ⟨w1.heap.size,0,none⟩) (na+40) (na+40)) (na+40) (u8s (xs++spr na 40)):=by
      have h5:=zbe (HFAy.below hW HFAy.lt) sw (na+40) (na+40) 1 lr (by rw[zaa,la9,zcy,HXL.out,Nat.mul_one]) om
      rwa [tk (by rw[zaa,la9,zcy,HXL.out];omega)]at h5
     have oB:W.ownsRow w.heap.size 5 1 (.slice (some ⟨w2.heap.size,0,none⟩) (nb+40) (nb+40)) (nb+40) (u8s (bs++spr nb 40)):=by
      have h5:=zbe (HFBy.below hW HFBy.lt) (show w.heap.size≤w2.heap.size by omega) (nb+40) (nb+40) 1 lr (by rw[zaa,la9,zcy,HBL.out,Nat.mul_one]) om
      rwa [tk (by rw[zaa,la9,zcy,HBL.out];omega)]at h5
     have fA:∀g,Value.ownBlock (.slice (some ⟨w1.heap.size,0,none⟩) (na+40) (na+40))=some g→w1.heap.size=g:=fun g hg=>by simpa[Value.ownBlock] using hg
     have fB:∀g,Value.ownBlock (.slice (some ⟨w2.heap.size,0,none⟩) (nb+40) (nb+40))=some g→w2.heap.size=g:=fun g hg=>by simpa[Value.ownBlock] using hg
     have g1:∀g,Value.ownBlock (.slice B1 768 d1)=some g→wx.heap.size≤g∧g<y1.heap.size:=fun g hg=>hown1.lt g hg
     have g2:∀g,Value.ownBlock (.slice B2 768 d2)=some g→y1.heap.size≤g∧g<y2.heap.size:=fun g hg=>hown2.lt g hg
     have g3:∀g,Value.ownBlock (.slice B3 288 d3)=some g→y2.heap.size≤g∧g<y3.heap.size:=fun g hg=>hown3.lt g hg
     refine apartP (HEY.out.trans (hW.mono HEY.out.size)) (Nat.le_trans HEY.out.size hW.size) oA oB (za7 (zaf (zaf (zaf hown1 hY2) hY3) hW) (show w.heap.size≤wx.heap.size by omega)) (za7 (zaf (zaf hown2 hY3) hW) om) (za7 (zaf hown3 hW) om) ?_ ?_ ?_ ?_ ?_ ?_ ?_ ?_ ?_ ?_ ⟨by omega,by omega,by omega,by omega,by omega⟩
     · intro g h1 h2;have:=fA g h1;have:=fB g h2;omega
     · intro g h1 h2;have:=fA g h1;have:=g1 g h2;omega
     · intro g h1 h2;have:=fA g h1;have:=g2 g h2;omega
     · intro g h1 h2;have:=fA g h1;have:=g3 g h2;omega
     · intro g h1 h2;have:=fB g h1;have:=g1 g h2;omega
     · intro g h1 h2;have:=fB g h1;have:=g2 g h2;omega
     · intro g h1 h2;have:=fB g h1;have:=g3 g h2;omega
     · intro g h1 h2;have:=g1 g h1;have:=g2 g h2;omega
     · intro g h1 h2;have:=g1 g h1;have:=g3 g h2;omega
     · intro g h1 h2;have:=g2 g h1;have:=g3 g h2;omega
    clear hT T1 T2 T3 D1 D2 D3 hown1 hown2 hown3 hY1 hY2 hY3 s1 s2 s3 sx sa sb sw HFAy HFBy
    go_wp2_with (first
     | (go_at_call 31;(refine(HRB.out _ (by exact HEY.out)).mono ?_);rintro e y4 ⟨A6,n6,c6,rfl,hr6,hB4⟩;have HD4:=qh hB4;have hl4:=pk_ld (HT3.out.below hB4 HT3.out.lt) HRL.out;have HR6:=qh hr6;clear hr6 hB4)
     | (go_at_call 32;(refine(HTD.out _ _ _ _ (by exact HR6.out)).mono ?_);rintro e y5 ⟨rfl,hB5⟩;have HD5:=qtr HD4 hB5;clear hB5)
     | (go_at_call 35;(refine(HAP.out _ (by exact HD5.out)).mono ?_);rintro e y6 ⟨rfl,hB6⟩))
    go_ret;exact⟨rfl,hB6⟩
def dlC:Cm:=⟨2,0,0,0,List.replicate 16 0⟩
theorem znw:dlC.ok:=⟨by decide,by decide,rfl⟩
theorem zk7:dlC.cells.toArray=#[.int .u8 2,.int .u8 0,.int .u32 0,.int .u64 0,.int .u8 0,.int .u8 0,.int .u8 0,.int .u8 0,.int .u8 0,.int .u8 0,.int .u8 0,.int .u8 0,.int .u8 0,.int .u8 0,.int .u8 0,.int .u8 0,.int .u8 0,.int .u8 0,.int .u8 0,.int .u8 0]:=rfl
theorem walk(A B H:Option Addr)(na ca nb cb n c:Nat)(xs bs:List UInt8)(hs:List Ho)(w:World)(hx:Rd w A na (u8s xs))(hb:Rd w B nb (u8s bs))(hna:na≤ca)(hca:ca≤140737488351232)(hnb:nb≤cb)(hcb:cb≤140737488351232)(hh:RdS 68 w H n (hs.flatMap Ho.cells))(hok:∀s∈hs,s.ok)(hl:hs.length=n)(hn:n*104≤140737488351232):
 Calls Tryz.prog 7 #[.slice A na ca,.slice B nb cb,.slice H n c] w fun e w'=>e=.returned (.bool true)∧Below w.heap.size w w' :=
 walk0 A B H na ca nb cb n c xs bs hs (pbR dlC xs bs hs) (pbE dlC xs bs hs) w hx hb om om hh hok hl hn (zqx znw hok)
   (fun W A1 c1 B1 d1 H1 e1 h1 h2 h3 h4 h5=>by
    have h6:=zot A1 B1 H1 na c1 nb d1 n e1 xs bs dlC znw hs W h1 h2 h3 h4 h5 hok hl om
    rwa [zk7]at h6)
   (fun W hW=>by
    have h6:=zv5 A B H na ca nb cb n c xs bs dlC znw hs W (hx.below hW) hna (hb.below hW) (hh.bel hW lr) hok hl om;rw[zk7]at h6;refine h6.mono ?_;rintro e w' ⟨A',n',c',rfl,hr',hB⟩
    exact⟨A',n',c',rfl,fun h=>⟨(hr' h).1,(hr' h).2.2⟩,hB⟩)
   (fun W B5 n5 c5 h=>zst dlC znw xs bs hs hok B5 n5 c5 W h)
end
end Go.Proofs.YtpgpaenloaphaaaGreat.packetKeeps
