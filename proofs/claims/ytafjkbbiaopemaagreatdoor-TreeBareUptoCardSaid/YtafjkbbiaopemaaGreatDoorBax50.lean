/- Part of the proof. -/
import Derived.Test.YtafjkbbiaopemaaGreatDoorBax45
import Derived.Test.YtafjkbbiaopemaaGreatDoorBax48
set_option linter.all false
set_option maxRecDepth 100000
set_option maxHeartbeats 0
namespace Go.Proofs.YtafjkbbiaopemaaGreatDoor.Tr
open Go.RowKit
section
def RsKA(F:Nat→Prop)(ss:List St):Prop :=
 ∀(A:Option Addr) (ca d:Nat) (w:World),BodyIn F w A ss→(prSs ss d).length+2*d+50≤1000000000000000→Calls Tryz.prog 39 #[.slice A ss.length ca,.string (bytesOf (ind d))] w fun r w'=>r=.returned (.string (bytesOf (prSs ss d)))∧Below w.heap.size w w'
def LX(s:St):Prop:=ExAn s.ea∧ExAn s.eb∧ExAn s.ec∧s.routes.length≤2000000
theorem LInA.of{F:Nat→Prop}{w:World}{s:St}{p:StA}(h:LX s)(hst:StIn F w s p):LInA F w s p:=⟨hst.1.1,hst.1.2.1,hst.1.2.2.1,hst.1.2.2.2,h.1,h.2.1,h.2.2.1,h.2.2.2⟩
theorem kinds3(s:St):isB s=false∨(isB s=true∧s.kind≠k_if)∨s.kind=k_if:=by
 by_cases h:s.kind=k_if
 · exact .inr (.inr h)
 · cases hb:isB s
   · exact .inl rfl
   · exact .inr (.inl ⟨rfl,h⟩)
inductive SsAn:List St→Prop
 | mk (ss:List St) (hl:ss.length≤2000000) (h:∀s∈ss,LX s) (hb:∀s∈ss,SsAn s.body) (he:∀s∈ss,SsAn s.els):SsAn ss
section
variable{w w':World}
attribute [local go_sem ↓] zes
theorem ziu{F:Nat→Prop}(ss:List St)(hw:∀s∈ss,LX s)(hx:∀s∈ss,RsKA F s.body∧RsKA F s.els)(hn8:ss.length≤2000000):RsKA F ss:=by
 intro A ca d w hA hl;have HS1:Hid (∀i (hi:i<ss.length),prSs (ss.take (i+1)) d=prSs (ss.take i) d++(ind d++prSt ss[i] d)):=fun i hi=>zek d ss i hi
 have HSL:Hid (∀i,(bytesOf (prSs (ss.take i) d)).size≤1000000000000000):=fun i=>by have:=zha d ss i;rw[sz_b];omega
 have HSN:Hid (prSs (ss.take ss.length) d=prSs ss d):=(by show _=_;rw[tk lr])
 have HLB:Hid (∀i (hi:i<ss.length),(ind d++prSt ss[i] d).length+2*d+50≤1000000000000000):=fun i hi=>by
  have h1:=zha d ss (i+1);rw[zek d ss i hi,la9]at h1;omega
 have HXX:Hid (∀i (hi:i<ss.length),LX ss[i]∧RsKA F ss[i].body∧RsKA F ss[i].els):=fun i hi=>⟨hw _ (List.getElem_mem hi),hx _ (List.getElem_mem hi)⟩
 obtain⟨IN,hIN⟩:=ex9 (bytesOf (ind d));have zIN:IN.size≤1000000000000000:=by rw[hIN,sz_b,zbh];omega
 have HIN1:Hid (bytesOf (ind (d+1))=IN++{ data:=#[32,32] }):=by show _=_;rw[hIN];exact zni d
 have HIN:=qh hIN;rw[←hIN];have HA:=qh hA;obtain⟨n,hn⟩:=ex9 (ss.length);have HN:=qh hn;rw[←hn];rw[←hn]at HSN hn8;clear hA hl hw hx hIN hn;have hn9:(n:Int)≤2000000:=om
 go_enter Tryz.func39, Tryz.ntmps39
 go_wp2
 go_loopg [5,6,7,8] n (fun kk v5 v6 v7 v8 wr=>∃(i:Nat) (S:ByteArray),v6=.int .i64 i∧v5=.string S∧S=bytesOf (prSs (ss.take i) d)∧kk+i=n∧Hid (Below w.heap.size w wr))
 case atStart=>exact⟨0,_,rfl,rfl,by simp[prSs,bytesOf],rfl,qh (Below.refl _ _)⟩
 case round =>
  obtain⟨i,S,rfl,rfl,hS,hk,HB⟩:=hrel;have zS:S.size≤1000000000000000:=by rw[hS];exact HSL.out i
  have HS:=qh hS;clear hS
  by_cases hi:i<n
  · have hil:i<ss.length:=by have:=HN.out;omega
    obtain⟨gb,ob,p,rfl,hgb,hrg,hst⟩:=zbr (HA.out.keep (Keep.of_below HB.out F)) i hil;have hii:(i:Int)<(n:Int):=om;have HST:=qh hst;have HSI:=qh (HS1.out i hil);have HLI:=qh (HLB.out i hil);have HXI:=qh (HXX.out i hil);clear hst HS1 HSL HA HXX HLB;generalize ss[i]=s at *
    rcases kinds3 s with hb|⟨hb,hni⟩|hk2
    · have hf:=zgf d hb
      rw[hf]at HSI HLI;clear hf;have hli:=HLI.out;simp only[List.length_append,List.length_cons,List.length_nil,zbh]at hli
      have HLN:Hid (∀W,Below wr.heap.size wr W→Calls Tryz.prog 77 #[.agg (stC s p).toArray] W fun r w'=>r=.returned (.tuple #[.string (bytesOf (rHd s)),.bool false])∧Below W.heap.size W w'):=fun W hW=>by
       have h1:=zfr s p (LInA.of HXI.out.1 (HST.out.keep (Keep.of_below hW F))) (w:=W) om;rw[hb]at h1;exact h1
      obtain⟨SL,hSL⟩:=ex9 (bytesOf (rHd s));have zSL:SL.size≤1000000000000000:=by rw[hSL,sz_b];omega
      rw[←hSL]at HLN
      have HV:Hid (S++IN++SL++{ data:=#[59,10] } = bytesOf (prSs (ss.take (i+1)) d)):=by
       show _=_
       rw[HSI.out,HS.out,HIN.out,hSL,show({ data:=#[59,10] } : ByteArray)=bytesOf [59,10] from rfl];simp only[zab]
       congr 1
       simp[List.append_assoc]
      have HCR:Hid (∀W,Below wr.heap.size wr W→W.rangeAt gb (ob+i*26) (stC s p)):=fun W hW j v hv=>(World.cell?_of_block (a:=⟨gb,ob+i*26+j,none⟩) (hW.block gb hgb)).trans (hrg j v hv)
      have HC0:=True.intro;have HC24:Hid ((stC s p)[24]? = some (.slice p.y.1 s.body.length p.y.2)):=rfl;have HC25:Hid ((stC s p)[25]? = some (.slice p.z.1 s.els.length p.z.2)):=rfl;have HCL:=qh (zba s p);have HBW:Hid (∀W,Below wr.heap.size wr W→Below w.heap.size w W):=fun W hW=>HB.out.trans (hW.mono HB.out.size)
      clear hli hb HXI HST HSI HLI hSL;generalize s.body.length=my at *;generalize s.els.length=mz at *;generalize stC s p=C at *;have hld:=run_loadAt_mid wr gb (ob+i*26) 42 C _ hrg Tryz.underlying42 rfl (by rw[HCL.out];exact hdSt);have hld2:(ldAt 42 (.pointer (some ⟨gb,ob+i*26,none⟩))).run Tryz.prog wr=.ok (.agg C.toArray) wr:=hld;clear hld hrg
      go_wp2_with (go_at_call 77;(refine(HLN.out _ (Below.refl _ _)).mono ?_);rintro r w2 ⟨rfl,hB2⟩;have H2:Hid (Below wr.heap.size wr w2):=hB2;clear hld2 hB2)
      go_roundg (n-(i+1))
      case measure=>omega
      case rel=>exact⟨i+1,_,by simp,rfl,by rw[←HV.out],by omega,qh (HBW.out _ H2.out)⟩
    · have hf:=zcp d hb (fun h=>absurd h hni)
      rw[hf]at HSI HLI;clear hf;have hli:=HLI.out
      unfold prBody at hli HSI
      simp only[List.length_append,List.length_cons,List.length_nil,zbh]at hli
      have HLN:Hid (∀W,Below wr.heap.size wr W→Calls Tryz.prog 77 #[.agg (stC s p).toArray] W fun r w'=>r=.returned (.tuple #[.string (bytesOf (rHd s)),.bool true])∧Below W.heap.size W w'):=fun W hW=>by
       have h1:=zfr s p (LInA.of HXI.out.1 (HST.out.keep (Keep.of_below hW F))) (w:=W) om;rw[hb]at h1;exact h1
      have HYB:Hid (RW wr 39 [.slice p.y.1 s.body.length p.y.2,.string (IN++{ data:=#[32,32] })] (bytesOf (prSs s.body (d+1)))):=fun W hW=>by
       rw[←HIN1.out];exact HXI.out.2.1 p.y.1 p.y.2 (d+1) W (HST.out.2.1.keep (Keep.of_below hW F)) om
      obtain⟨SL,hSL⟩:=ex9 (bytesOf (rHd s));have zSL:SL.size≤1000000000000000:=by rw[hSL,sz_b];omega
      rw[←hSL]at HLN;obtain⟨SB,hSB⟩:=ex9 (bytesOf (prSs s.body (d+1)));have zSB:SB.size≤1000000000000000:=by rw[hSB,sz_b];omega
      rw[←hSB]at HYB
      have HV:Hid (S++IN++SL++{ data:=#[32,123,10] }++SB++IN++{ data:=#[125,10] } = bytesOf (prSs (ss.take (i+1)) d)):=by
       show _=_
       rw[HSI.out,HS.out,HIN.out,hSL,hSB,show({ data:=#[32,123,10] } : ByteArray)=bytesOf [32,123,10] from rfl,show({ data:=#[125,10] } : ByteArray)=bytesOf [125,10] from rfl];simp only[zab]
       congr 1
       simp[List.append_assoc]
      have HCR:Hid (∀W,Below wr.heap.size wr W→W.rangeAt gb (ob+i*26) (stC s p)):=fun W hW j v hv=>(World.cell?_of_block (a:=⟨gb,ob+i*26+j,none⟩) (hW.block gb hgb)).trans (hrg j v hv)
      have HC0:Hid ((stC s p)[0]? = some (.string s.kind)):=rfl;have HC24:Hid ((stC s p)[24]? = some (.slice p.y.1 s.body.length p.y.2)):=rfl;have HC25:Hid ((stC s p)[25]? = some (.slice p.z.1 s.els.length p.z.2)):=rfl;have HCL:=qh (zba s p);have HBW:Hid (∀W,Below wr.heap.size wr W→Below w.heap.size w W):=fun W hW=>HB.out.trans (hW.mono HB.out.size)
      have sK:(s.kind.toList == [105,102])=false:=strl hni;clear hli hb HXI HST HSI HLI hSL hSB hni;generalize s.kind=K at *;generalize s.body.length=my at *;generalize s.els.length=mz at *;generalize stC s p=C at *;have hld:=run_loadAt_mid wr gb (ob+i*26) 42 C _ hrg Tryz.underlying42 rfl (by rw[HCL.out];exact hdSt);have hld2:(ldAt 42 (.pointer (some ⟨gb,ob+i*26,none⟩))).run Tryz.prog wr=.ok (.agg C.toArray) wr:=hld;clear hld hrg
      go_wp2_with (first
       | (go_at_call 39;(refine(HYB.out _ H2.out).mono ?_);rintro r w3 ⟨rfl,hB3⟩;have H3:Hid (Below wr.heap.size wr w3):=H2.out.trans (hB3.mono H2.out.size);clear hB3 c24;have c0:w3.cell? ⟨gb,ob+i*26,none⟩=some (.string K):=HCR.out w3 H3.out 0 _ HC0.out;have c25:w3.cell? ⟨gb,ob+i*26+25,none⟩=some (.slice p.z.1 mz p.z.2):=HCR.out w3 H3.out 25 _ HC25.out)
       | (go_at_call 77;(refine(HLN.out _ (Below.refl _ _)).mono ?_);rintro r w2 ⟨rfl,hB2⟩;have H2:Hid (Below wr.heap.size wr w2):=hB2;clear hld2 hB2;have c24:w2.cell? ⟨gb,ob+i*26+24,none⟩=some (.slice p.y.1 my p.y.2):=HCR.out w2 H2.out 24 _ HC24.out))
      go_roundg (n-(i+1))
      case measure=>omega
      case rel=>exact⟨i+1,_,by simp,rfl,by rw[←HV.out],by omega,qh (HBW.out _ H3.out)⟩
    · have hb:isB s=true:=isB_t (by rw[hk2];simp)
      by_cases he:s.els=[]
      · have hf:=zcp d hb (fun _=>he)
        rw[hf]at HSI HLI;clear hf;have hli:=HLI.out
        unfold prBody at hli HSI
        simp only[List.length_append,List.length_cons,List.length_nil,zbh]at hli
        have HLN:Hid (∀W,Below wr.heap.size wr W→Calls Tryz.prog 77 #[.agg (stC s p).toArray] W fun r w'=>r=.returned (.tuple #[.string (bytesOf (rHd s)),.bool true])∧Below W.heap.size W w'):=fun W hW=>by
         have h1:=zfr s p (LInA.of HXI.out.1 (HST.out.keep (Keep.of_below hW F))) (w:=W) om;rw[hb]at h1;exact h1
        have HYB:Hid (RW wr 39 [.slice p.y.1 s.body.length p.y.2,.string (IN++{ data:=#[32,32] })] (bytesOf (prSs s.body (d+1)))):=fun W hW=>by
         rw[←HIN1.out];exact HXI.out.2.1 p.y.1 p.y.2 (d+1) W (HST.out.2.1.keep (Keep.of_below hW F)) om
        obtain⟨SL,hSL⟩:=ex9 (bytesOf (rHd s));have zSL:SL.size≤1000000000000000:=by rw[hSL,sz_b];omega
        rw[←hSL]at HLN;obtain⟨SB,hSB⟩:=ex9 (bytesOf (prSs s.body (d+1)));have zSB:SB.size≤1000000000000000:=by rw[hSB,sz_b];omega
        rw[←hSB]at HYB
        have HV:Hid (S++IN++SL++{ data:=#[32,123,10] }++SB++IN++{ data:=#[125,10] } = bytesOf (prSs (ss.take (i+1)) d)):=by
         show _=_
         rw[HSI.out,HS.out,HIN.out,hSL,hSB,show({ data:=#[32,123,10] } : ByteArray)=bytesOf [32,123,10] from rfl,show({ data:=#[125,10] } : ByteArray)=bytesOf [125,10] from rfl];simp only[zab]
         congr 1
         simp[List.append_assoc]
        have HCR:Hid (∀W,Below wr.heap.size wr W→W.rangeAt gb (ob+i*26) (stC s p)):=fun W hW j v hv=>(World.cell?_of_block (a:=⟨gb,ob+i*26+j,none⟩) (hW.block gb hgb)).trans (hrg j v hv)
        have HC0:Hid ((stC s p)[0]? = some (.string s.kind)):=rfl;have HC24:Hid ((stC s p)[24]? = some (.slice p.y.1 s.body.length p.y.2)):=rfl;have HC25:Hid ((stC s p)[25]? = some (.slice p.z.1 s.els.length p.z.2)):=rfl;have HCL:=qh (zba s p);have HBW:Hid (∀W,Below wr.heap.size wr W→Below w.heap.size w W):=fun W hW=>HB.out.trans (hW.mono HB.out.size)
        rw[hk2]at HC0;have hz0:s.els.length=0:=by rw[he];rfl
        clear hli hb HXI HST HSI HLI hSL hSB hk2 he;generalize s.body.length=my at *;generalize s.els.length=mz at *;subst hz0;generalize stC s p=C at *;have hld:=run_loadAt_mid wr gb (ob+i*26) 42 C _ hrg Tryz.underlying42 rfl (by rw[HCL.out];exact hdSt);have hld2:(ldAt 42 (.pointer (some ⟨gb,ob+i*26,none⟩))).run Tryz.prog wr=.ok (.agg C.toArray) wr:=hld;clear hld hrg
        go_wp2_with (first
         | (go_at_call 39;(refine(HYB.out _ H2.out).mono ?_);rintro r w3 ⟨rfl,hB3⟩;have H3:Hid (Below wr.heap.size wr w3):=H2.out.trans (hB3.mono H2.out.size);clear hB3 c24;have c0:w3.cell? ⟨gb,ob+i*26,none⟩=some (.string k_if):=HCR.out w3 H3.out 0 _ HC0.out;have c25:w3.cell? ⟨gb,ob+i*26+25,none⟩=some (.slice p.z.1 0 p.z.2):=HCR.out w3 H3.out 25 _ HC25.out)
         | (go_at_call 77;(refine(HLN.out _ (Below.refl _ _)).mono ?_);rintro r w2 ⟨rfl,hB2⟩;have H2:Hid (Below wr.heap.size wr w2):=hB2;clear hld2 hB2;have c24:w2.cell? ⟨gb,ob+i*26+24,none⟩=some (.slice p.y.1 my p.y.2):=HCR.out w2 H2.out 24 _ HC24.out))
        go_roundg (n-(i+1))
        case measure=>omega
        case rel=>exact⟨i+1,_,by simp,rfl,by rw[←HV.out],by omega,qh (HBW.out _ H3.out)⟩
      · have hf:=zgg d hk2 he
        rw[hf]at HSI HLI;clear hf;have hli:=HLI.out
        unfold prBody at hli HSI
        simp only[List.length_append,List.length_cons,List.length_nil,zbh]at hli
        have HLN:Hid (∀W,Below wr.heap.size wr W→Calls Tryz.prog 77 #[.agg (stC s p).toArray] W fun r w'=>r=.returned (.tuple #[.string (bytesOf (rHd s)),.bool true])∧Below W.heap.size W w'):=fun W hW=>by
         have h1:=zfr s p (LInA.of HXI.out.1 (HST.out.keep (Keep.of_below hW F))) (w:=W) om;rw[hb]at h1;exact h1
        have HYB:Hid (RW wr 39 [.slice p.y.1 s.body.length p.y.2,.string (IN++{ data:=#[32,32] })] (bytesOf (prSs s.body (d+1)))):=fun W hW=>by
         rw[←HIN1.out];exact HXI.out.2.1 p.y.1 p.y.2 (d+1) W (HST.out.2.1.keep (Keep.of_below hW F)) om
        have HZB:Hid (RW wr 39 [.slice p.z.1 s.els.length p.z.2,.string (IN++{ data:=#[32,32] })] (bytesOf (prSs s.els (d+1)))):=fun W hW=>by
         rw[←HIN1.out];exact HXI.out.2.2 p.z.1 p.z.2 (d+1) W (HST.out.2.2.keep (Keep.of_below hW F)) om
        obtain⟨SL,hSL⟩:=ex9 (bytesOf (rHd s));have zSL:SL.size≤1000000000000000:=by rw[hSL,sz_b];omega
        rw[←hSL]at HLN;obtain⟨SB,hSB⟩:=ex9 (bytesOf (prSs s.body (d+1)));have zSB:SB.size≤1000000000000000:=by rw[hSB,sz_b];omega
        rw[←hSB]at HYB;obtain⟨SE,hSE⟩:=ex9 (bytesOf (prSs s.els (d+1)));have zSE:SE.size≤1000000000000000:=by rw[hSE,sz_b];omega
        rw[←hSE]at HZB
        have HV:Hid (S++IN++SL++{ data:=#[32,123,10] }++SB++IN++{ data:=#[125,32,101,108,115,101,32,123,10] }++SE++IN++{ data:=#[125,10] } = bytesOf (prSs (ss.take (i+1)) d)):=by
         show _=_
         rw[HSI.out,HS.out,HIN.out,hSL,hSB,hSE,show({ data:=#[32,123,10] } : ByteArray)=bytesOf [32,123,10] from rfl,show({ data:=#[125,32,101,108,115,101,32,123,10] } : ByteArray)=bytesOf [125,32,101,108,115,101,32,123,10] from rfl,show({ data:=#[125,10] } : ByteArray)=bytesOf [125,10] from rfl];simp only[zab]
         congr 1
         simp[List.append_assoc]
        have HCR:Hid (∀W,Below wr.heap.size wr W→W.rangeAt gb (ob+i*26) (stC s p)):=fun W hW j v hv=>(World.cell?_of_block (a:=⟨gb,ob+i*26+j,none⟩) (hW.block gb hgb)).trans (hrg j v hv)
        have HC0:Hid ((stC s p)[0]? = some (.string s.kind)):=rfl;have HC24:Hid ((stC s p)[24]? = some (.slice p.y.1 s.body.length p.y.2)):=rfl;have HC25:Hid ((stC s p)[25]? = some (.slice p.z.1 s.els.length p.z.2)):=rfl;have HCL:=qh (zba s p);have HBW:Hid (∀W,Below wr.heap.size wr W→Below w.heap.size w W):=fun W hW=>HB.out.trans (hW.mono HB.out.size)
        rw[hk2]at HC0;have hz0:(0:Int)<(s.els.length:Int):=by have:=List.length_pos_iff.2 he;omega
        clear hli hb HXI HST HSI HLI hSL hSB hSE hk2 he;generalize s.body.length=my at *;generalize s.els.length=mz at *;generalize stC s p=C at *;have hld:=run_loadAt_mid wr gb (ob+i*26) 42 C _ hrg Tryz.underlying42 rfl (by rw[HCL.out];exact hdSt);have hld2:(ldAt 42 (.pointer (some ⟨gb,ob+i*26,none⟩))).run Tryz.prog wr=.ok (.agg C.toArray) wr:=hld;clear hld hrg
        go_wp2_with (first
         | (go_at_call 39;(refine(HZB.out _ H3.out).mono ?_);rintro r w4 ⟨rfl,hB4⟩;have H4:Hid (Below wr.heap.size wr w4):=H3.out.trans (hB4.mono H3.out.size);clear hB4 c0 c25)
         | (go_at_call 39;(refine(HYB.out _ H2.out).mono ?_);rintro r w3 ⟨rfl,hB3⟩;have H3:Hid (Below wr.heap.size wr w3):=H2.out.trans (hB3.mono H2.out.size);clear hB3 c24;have c0:w3.cell? ⟨gb,ob+i*26,none⟩=some (.string k_if):=HCR.out w3 H3.out 0 _ HC0.out;have c25:w3.cell? ⟨gb,ob+i*26+25,none⟩=some (.slice p.z.1 mz p.z.2):=HCR.out w3 H3.out 25 _ HC25.out)
         | (go_at_call 77;(refine(HLN.out _ (Below.refl _ _)).mono ?_);rintro r w2 ⟨rfl,hB2⟩;have H2:Hid (Below wr.heap.size wr w2):=hB2;clear hld2 hB2;have c24:w2.cell? ⟨gb,ob+i*26+24,none⟩=some (.slice p.y.1 my p.y.2):=HCR.out w2 H2.out 24 _ HC24.out))
        go_roundg (n-(i+1))
        case measure=>omega
        case rel=>exact⟨i+1,_,by simp,rfl,by rw[←HV.out],by omega,qh (HBW.out _ H4.out)⟩
  · have hii:¬(i:Int)<(n:Int):=om
    obtain rfl:i=n:=om;clear HA HS1 HSL HXX HLB;go_wp2;go_ret;exact⟨by rw[HS.out,HSN.out];rfl,HB.out⟩
theorem zg7{F:Nat→Prop}{ss:List St}(h:SsAn ss):RsKA F ss:=by
 induction h with
 | mk ss hl h hb he ib ie=>exact ziu ss h (fun s hs=>⟨ib s hs,ie s hs⟩) hl
end
end
section
def DX(d:Dc):Prop:=ExAn d.value∧d.places.length≤2000000∧∀q∈d.places,ExAn q.delay∧ExAn q.flags
theorem dkinds(d:Dc):d.kind=k_let∨d.kind=k_route∨(d.kind≠k_let∧d.kind≠k_route):=by
 by_cases h:d.kind=k_let
 · exact .inl h
 · by_cases h2:d.kind=k_route
   · exact .inr (.inl h2)
   · exact .inr (.inr ⟨h,h2⟩)
section
variable{w w':World}
attribute [local go_sem ↓] zgm zfh
theorem zg8{F:Nat→Prop}(t:Sr)(hd:∀d∈t.decls,DX d)(hdl:t.decls.length≤2000000)(hb:RsKA F t.body)(A D:Option Addr)(ca cd:Nat)(w:World)(hD:DcsIn F w D t.decls)(hA:BodyIn F w A t.body)(hl:(prTop t).length+100≤1000000000000000):Calls Tryz.prog 13 #[.agg #[.slice D t.decls.length cd,.slice A t.body.length ca]] w fun r w'=>r=.returned (.string (bytesOf (prTop t)))∧Below w.heap.size w w':=by
 obtain⟨ds,bs⟩:=t
 unfold prTop at hl ⊢
 dsimp only at *;rw[la9]at hl;have HS1:Hid (∀i (hi:i<ds.length),(ds.take (i+1)).flatMap prDc=(ds.take i).flatMap prDc++prDc ds[i]):=fun i hi=>zfz prDc ds i hi
 have HSL:Hid (∀i,(bytesOf ((ds.take i).flatMap prDc)).size≤1000000000000000):=fun i=>by have:=fm_le prDc ds i;rw[sz_b];omega
 have HLB:Hid (∀i (hi:i<ds.length),((ds.take i).flatMap prDc).length+(prDc ds[i]).length+100≤1000000000000000):=fun i hi=>by
  have h1:=fm_le prDc ds (i+1);rw[zfz prDc ds i hi,la9]at h1;omega
 have HSN:Hid (ds.take ds.length=ds):=tk lr;have HXX:Hid (∀i (hi:i<ds.length),DX ds[i]):=fun i hi=>hd _ (List.getElem_mem hi)
 have HDD:Hid (∀W,Below w.heap.size w W→DcsIn F W D ds):=fun W hW=>hD.keep (Keep.of_below hW F)
 have HBS:Hid (∀W,Below w.heap.size w W→Calls Tryz.prog 39 #[.slice A bs.length ca,.string { data:=#[] }] W fun r w'=>(r=.returned (.string (bytesOf (prSs bs 0))))∧Below W.heap.size W w'):=fun W hW=>hb A ca 0 W (hA.keep (Keep.of_below hW F)) om
 have hbz:(bytesOf (prSs bs 0)).size≤1000000000000000:=by rw[sz_b];omega
 obtain⟨n,hn⟩:=ex9 (ds.length);have HN:=qh hn;rw[←hn]at HSN hdl ⊢;generalize bs.length=bn at *
 have HW1:Hid (∀W,W=w.alloc (.cells #[.slice D n cd,.slice A bn ca] 26)→Below w.heap.size w W∧Blk W w.heap.size 26 [.slice D n cd,.slice A bn ca]∧W.heap.size=w.heap.size+1):=by
  rintro W rfl;exact⟨(Below.refl _ _).alloc lr _,Blk.new _ _ _,by simp⟩
 clear hd hb hD hA hl hn;have hn9:(n:Int)≤2000000:=om
 go_enter Tryz.func13, Tryz.ntmps13
 go_upto_region 1 with fail
 obtain⟨W1,hW1⟩:=ex9 (w.alloc (.cells #[.slice D n cd,.slice A bn ca] 26));have HX:=qh (HW1.out W1 hW1);rw[←hW1];clear HW1 hW1
 have HBX:Hid (∀W,Below (w.heap.size+1) W1 W→W.cell? ⟨w.heap.size,0,none⟩=some (.slice D n cd)∧W.cell? ⟨w.heap.size,1,none⟩=some (.slice A bn ca)∧w.heap.size<W.heap.size∧Below w.heap.size w W):=fun W hW=>by
  have h1:=HX.out.2.1.below hW (Nat.lt_succ_self _);exact⟨h1.cell 0,h1.cell 1,h1.lt,HX.out.1.trans (hW.mono om)⟩
 have HSZ:Hid (W1.heap.size=w.heap.size+1):=HX.out.2.2;obtain⟨G,hG⟩:=ex9 (w.heap.size);rw[←hG]at HBX HSZ ⊢;have HGE:Hid (∀W,Below G w W→Below w.heap.size w W):=by subst hG;exact fun W h=>h
 rw[←hG]at HDD HBS;clear HX hG;obtain⟨s0,s1,s2,_⟩:=HBX.out W1 (Below.refl _ _);go_wp2;clear s0 s1 s2
 go_loopg [3,4,5,6] n (fun kk v3 v4 v5 v6 wr=>∃(i:Nat) (S:ByteArray),v4=.int .i64 i∧v3=.string S∧S=bytesOf ((ds.take i).flatMap prDc)∧kk+i=n∧Hid (Below (G+1) W1 wr))
 case atStart=>exact⟨0,_,rfl,rfl,by simp[bytesOf],rfl,qh (Below.refl _ _)⟩
 case round =>
  rename World=>wo
  obtain⟨i,S,rfl,rfl,hS,hk,HB⟩:=hrel;have zS:S.size≤1000000000000000:=by rw[hS];exact HSL.out i
  have HS:=qh hS;clear hS;obtain⟨s0,s1,s2,_⟩:=HBX.out wo HB.out
  by_cases hi:i<n
  · have hil:i<ds.length:=by have:=HN.out;omega
    obtain⟨db,dof,p,rfl,hdb,hrg,hdi⟩:=zc8 (HDD.out wo (HBX.out wo HB.out).2.2.2) i hil;have hii:(i:Int)<(n:Int):=om;have HDI:=qh hdi;have HSI:=qh (HS1.out i hil);have HLI:=qh (HLB.out i hil);have HXI:=qh (HXX.out i hil);clear hdi HS1 HSL HDD HXX HLB HBS s1 hbz;generalize ds[i]=dd at *;have HCL:=qh (zce dd p);have HCO:=qh (zbq dd p);have hld:=run_loadAt_mid wo db (dof+i*9) 45 (dcC dd p) _ hrg Tryz.underlying45 rfl (by rw[HCL.out];exact hdDc);have hld2:(ldAt 45 (.pointer (some ⟨db,dof+i*9,none⟩))).run Tryz.prog wo=.ok (.agg (dcC dd p).toArray) wo:=hld;clear hld hrg
    have HOV:Hid (∀W o,Only (wo.alloc o) W wo.heap.size→Below (G+1) W1 W∧Below wo.heap.size wo W∧wo.heap.size<W.heap.size):=fun W o ho=>by
     have h1:Below wo.heap.size wo W:=ho.below ((Below.refl _ _).alloc lr _) lr sy;exact⟨HB.out.trans (h1.mono (by have:=HB.out.size;have:=HSZ.out;omega)),h1,by have:=ho.grown.size;simp at this;omega⟩
    have hgg:G+1≤wo.heap.size:=by have:=HB.out.size;have:=HSZ.out;omega
    obtain⟨XN,hXN⟩:=ex9 (dd.name.name);have eN:XN=bytesOf (tx dd.name.name):=by rw[zaz];exact hXN
    rcases dkinds dd with hk2|hk2|⟨hk2,hk3⟩
    · have hf:prDc dd=[108,101,116,32]++tx dd.name.name++[32,61,32]++prE dd.value++[59,10]:=by unfold prDc;rw[if_pos hk2]
      rw[hf]at HSI HLI;have hli:=HLI.out;simp only[List.length_append,List.length_cons,List.length_nil]at hli
      have HXE:Hid (RW wo 37 [.agg (exC dd.value p.1).toArray,.int .i64 0] (bytesOf (prE dd.value))):=fun W hW=>by
       have h1:=zbn HXI.out.1 p.1 0 W om om (HDI.out.1.keep (Keep.of_below hW F))
       unfold rxR at h1
       simpa[par] using h1
      obtain⟨XE,hXE⟩:=ex9 (bytesOf (prE dd.value));rw[←hXE]at HXE;have zE:XE.size≤1000000000000000:=by rw[hXE,sz_b];omega
      have zN:XN.size≤1000000000000000:=by rw[eN,sz_b];omega
      have HV:Hid (S++{ data:=#[108,101,116,32] }++XN++{ data:=#[32,61,32] }++XE++{ data:=#[59,10] } = bytesOf ((ds.take (i+1)).flatMap prDc)):=by
       show _=_
       rw[HSI.out,HS.out,eN,hXE,show({ data:=#[108,101,116,32] } : ByteArray)=bytesOf [108,101,116,32] from rfl,show({ data:=#[32,61,32] } : ByteArray)=bytesOf [32,61,32] from rfl,show({ data:=#[59,10] } : ByteArray)=bytesOf [59,10] from rfl];simp only[zab]
       congr 1
       simp[List.append_assoc]
      obtain⟨V,hV⟩:=ex9 (bytesOf ((ds.take (i+1)).flatMap prDc));rw[←hV]at HV;have HVV:=qh hV;have y0:({ data:=#[108,101,116,32] } : ByteArray).size≤30:=by decide
      have y1:({ data:=#[32,61,32] } : ByteArray).size≤30:=by decide
      have y2:({ data:=#[59,10] } : ByteArray).size≤30:=by decide
      have HCT:Hid ((S:ByteArray).size+({ data:=#[108,101,116,32] } : ByteArray).size≤9223372036854775807∧(S++{ data:=#[108,101,116,32] } : ByteArray).size+(XN:ByteArray).size≤9223372036854775807∧(S++{ data:=#[108,101,116,32] }++XN:ByteArray).size+({ data:=#[32,61,32] } : ByteArray).size≤9223372036854775807∧(S++{ data:=#[108,101,116,32] }++XN++{ data:=#[32,61,32] } : ByteArray).size+(XE:ByteArray).size≤9223372036854775807∧(S++{ data:=#[108,101,116,32] }++XN++{ data:=#[32,61,32] }++XE:ByteArray).size+({ data:=#[59,10] } : ByteArray).size≤9223372036854775807∧True):=by
       refine⟨?_,?_,?_,?_,?_,trivial⟩ <;> (try simp only[ByteArray.size_append]) <;> omega
      have HC0:Hid ((dcC dd p)[0]? = some (.string k_let)):=by show _=_;rw[←hk2];rfl
      have HC1:Hid ((dcC dd p)[1]? = some (.string XN)):=by show _=_;rw[hXN];rfl
      obtain⟨CE,hCE⟩:=ex9 (exC dd.value p.1);have HKE:Hid (∀j v,CE[j]? = some v→(dcC dd p)[3+j]? = some v):=by show ∀j v,_;rw[hCE];exact dcC_v dd p
      have HLE:Hid (CE.length=5):=by show _=_;rw[hCE];rfl
      rw[←hCE]at HXE;clear hf hli hk2 HSI HLI HDI HXI hXE hV y0 y1 y2 hCE hXN eN;generalize dcC dd p=C at *
      go_upto_region 9 with (refine zaa rfl 45 (.tmp 5) (.tmp 18) rfl wo.heap.size C rr rr 45 (dcC zDc pl0) (by exact Blk.new' rfl rfl) (by rw[HCL.out];exact hdDc) HCO.out HCL.out ?_;intro w1 hb1 ho1;have HB1:=qh hb1;have H1:=qh (HOV.out w1 _ ho1);have c0:w1.cell? ⟨wo.heap.size,0,none⟩=some (.string k_let):=(hb1.cell 0).trans HC0.out; have hlt1:=H1.out.2.2;clear hb1 ho1 hld2)
      clear c0 s0 s2
      have HLD:Hid (∀W,Below w1.heap.size w1 W→W.cell? ⟨wo.heap.size,1,none⟩=some (.string XN)∧W.rangeAt wo.heap.size 3 CE∧Below wo.heap.size wo W∧Below (G+1) W1 W):=fun W hW=>by
       have hB:=HB1.out.below hW HB1.out.lt;exact⟨(hB.cell 1).trans HC1.out,hB.mid 3 _ HKE.out,H1.out.2.1.trans (hW.mono (Nat.le_of_lt hlt1)),H1.out.1.trans (hW.mono om)⟩
      have hT:Below w1.heap.size w1 w1.drew:=Below.drew (Below.refl _ _);refine kgo kr 12 (fun W=>Below w1.heap.size w1 W) hT (fun _ _ _ _ _ h=>h) ?_;refine kp 0 (.string S) rfl kr (fun _=>kr) ?_;refine kp 1 (.string (S++{ data:=#[108,101,116,32] })) rfl kr (fun _=>zan rr kr kr HCT.out.1) ?_;refine kp 2 (.pointer (some ⟨wo.heap.size,1,none⟩)) rfl kr (fun _=>kr) ?_;refine kp 3 (.pointer (some ⟨wo.heap.size,1,none⟩)) rfl kr (fun _=>kr) ?_;refine kl 4 (.string XN) rfl kr (fun w' hw'=>zah (t:=9) (x:=.tmp 28) rr kr agStr (HLD.out w' hw').1) ?_;refine kp 5 (.string (S++{ data:=#[108,101,116,32] }++XN)) rfl kr (fun _=>zan rr kr kr HCT.out.2.1) ?_;refine kp 6 (.string (S++{ data:=#[108,101,116,32] }++XN++{ data:=#[32,61,32] })) rfl kr (fun _=>zan rr kr kr HCT.out.2.2.1) ?_;refine kp 7 (.pointer (some ⟨wo.heap.size,3,none⟩)) rfl kr (fun _=>kr) ?_;refine kl 8 (.agg CE.toArray) rfl kr (fun w' hw'=>zac rfl kr (run_loadAt_mid w' wo.heap.size 3 39 CE _ (HLD.out w' hw').2.1 Tryz.underlying39 rfl (by rw[HLE.out];exact hdEx))) ?_;intro q8 q9;clear q8 q9;refine AnyK.enter 9 (d:=some 34) (f:=37) (args:=#[.agg CE.toArray,.int .i64 0]) rr kr kr ?_;refine(HXE.out _ (HLD.out _ hT).2.2.1).mono ?_;rintro r w2 ⟨rfl,hB2⟩;have hT2:Below w1.heap.size w1 w2:=hT.trans hB2;refine⟨_,rfl,fun _=>hT2,?_⟩;refine AnyK.pure 10 (v:=.string (S++{ data:=#[108,101,116,32] }++XN++{ data:=#[32,61,32] }++XE)) rfl kr (fun _ _ _ h=>h) rfl (fun _=>zan rr kr kr HCT.out.2.2.2.1) (fun _=>hT2) ?_;refine AnyK.pure 11 (v:=.string V) rfl kr (fun _ _ _ h=>h) rfl (fun _=>by rw[←HV.out];exact zan rr kr kr HCT.out.2.2.2.2.1) (fun _=>hT2) ?_;refine AnyK.val 12 (v:=.string V) rr kr rfl kr (fun h=>(by cases h)) ?_;have HB9:Hid (Below (G+1) W1 w2):=(HLD.out _ hT2).2.2.2;refine AnyK.done ?_ ?_
      · kernel_rfl
      clear HV HCT HLD hT hT2 hB2 HXE;simp only[List.getElem_toArray,List.getElem_cons_zero,List.getElem_cons_succ,Act.put,List.setIfInBounds_toArray,List.set_cons_succ,List.set_cons_zero];go_wp2;go_roundg (n-(i+1))
      case measure=>omega
      case rel=>exact⟨i+1,V,by simp,rfl,HVV.out,by omega,HB9⟩
    · have hf:prDc dd=[114,111,117,116,101,32]++tx dd.name.name++[32,61,32]++sepB [32,62,32] (dd.places.map prPl)++[59,10]:=by unfold prDc;rw[if_neg (by rw[hk2];decide),if_pos hk2]
      rw[hf]at HSI HLI;have hli:=HLI.out;simp only[List.length_append,List.length_cons,List.length_nil]at hli;have zN:XN.size≤1000000000000000:=by rw[eN,sz_b];omega
      have HC0:Hid ((dcC dd p)[0]? = some (.string k_route)):=by show _=_;rw[←hk2];rfl
      have HC1:Hid ((dcC dd p)[1]? = some (.string XN)):=by show _=_;rw[hXN];rfl
      have HC8:Hid ((dcC dd p)[8]? = some (.slice p.2.1 dd.places.length p.2.2)):=rfl;obtain⟨T0,hT0⟩:=ex9 ((ds.take i).flatMap prDc++[114,111,117,116,101,32]++tx dd.name.name++[32,61,32]);have hTl:T0.length=((ds.take i).flatMap prDc).length+6+(tx dd.name.name).length+3:=by rw[hT0];simp only[List.length_append,List.length_cons,List.length_nil]
      have HVE:Hid ((ds.take (i+1)).flatMap prDc=T0++sepB [32,62,32] (dd.places.map prPl)++[59,10]):=by show _=_;rw[HSI.out,hT0];simp[List.append_assoc]
      have HVS:Hid (S++{ data:=#[114,111,117,116,101,32] }++XN++{ data:=#[32,61,32] } = bytesOf T0):=by
       show _=_
       rw[hT0,HS.out,eN,show({ data:=#[114,111,117,116,101,32] } : ByteArray)=bytesOf [114,111,117,116,101,32] from rfl,show({ data:=#[32,61,32] } : ByteArray)=bytesOf [32,61,32] from rfl];simp only[zab]
      have HSEP:Hid (∀k,k≤dd.places.length→T0.length+(sepB [32,62,32] ((dd.places.map prPl).take k)).length+50≤1000000000000000):=fun k hk=>by
       have h1:=zd0 [32,62,32] (dd.places.map prPl) (dd.places.length-k) k (by simp;omega);omega
      have hpi:∀k (hk:k<dd.places.length),(dd.places.map prPl)[k]? = some (prPl dd.places[k]):=fun k hk=>by rw[List.getElem?_map,ge9 hk];rfl
      have HPS:Hid (∀k (hk:k<dd.places.length),0<k→sepB [32,62,32] ((dd.places.map prPl).take (k+1))=sepB [32,62,32] ((dd.places.map prPl).take k)++[32,62,32]++prPl dd.places[k]):=fun k hk h0=>zb4 h0 (hpi k hk)
      have HP0:Hid (∀(hk:0<dd.places.length),sepB [32,62,32] ((dd.places.map prPl).take 1)=prPl dd.places[0]):=fun hk=>zdc (hpi 0 hk)
      have HPN:Hid (sepB [32,62,32] ((dd.places.map prPl).take dd.places.length)=sepB [32,62,32] (dd.places.map prPl)):=(by show _=_;rw[tk sy]);have HPW:Hid (∀k (hk:k<dd.places.length),ExAn dd.places[k].delay∧ExAn dd.places[k].flags):=fun k hk=>HXI.out.2.2 _ (List.getElem_mem hk)
      have HPI:=qh HDI.out.2;have hpl:dd.places.length≤2000000:=HXI.out.2.1;clear hf hli hk2 HSI HLI HDI HXI hpi hTl hT0 eN hXN;generalize dd.places=ps at *;generalize dcC dd p=C at *;obtain⟨m,hm⟩:=ex9 (ps.length);have HM:=qh hm;rw[←hm]at HC8 HPN hpl HSEP;clear hm;have hm9:(m:Int)≤2000000:=om;obtain⟨PA,pc⟩:=p;obtain⟨PB,pd⟩:=pc;dsimp only at HC8 HPI
      go_upto_region 12 with (refine zaa rfl 45 (.tmp 5) (.tmp 18) rfl wo.heap.size C rr rr 45 (dcC zDc pl0) (by exact Blk.new' rfl rfl) (by rw[HCL.out];exact hdDc) HCO.out HCL.out ?_;intro w1 hb1 ho1;have HB1:=qh hb1;have H1:=qh (HOV.out w1 _ ho1);have c0:w1.cell? ⟨wo.heap.size,0,none⟩=some (.string k_route):=(hb1.cell 0).trans HC0.out;have c1:w1.cell? ⟨wo.heap.size,1,none⟩=some (.string XN):=(hb1.cell 1).trans HC1.out;have hlt1:=H1.out.2.2;clear hb1 ho1 hld2)
      clear c0 c1 s0 s2
      have HLD:Hid (∀W,Below w1.heap.size w1 W→W.cell? ⟨wo.heap.size,8,none⟩=some (.slice PB m pd)∧Below wo.heap.size wo W∧Below (G+1) W1 W):=fun W hW=>by
       have hB:=HB1.out.below hW HB1.out.lt;exact⟨(hB.cell 8).trans HC8.out,H1.out.2.1.trans (hW.mono (Nat.le_of_lt hlt1)),H1.out.1.trans (hW.mono om)⟩
      obtain⟨S0,hS0⟩:=ex9 (S++{ data:=#[114,111,117,116,101,32] }++XN++{ data:=#[32,61,32] });have HS0:Hid (S0=bytesOf T0):=hS0.trans HVS.out
      try rw[←hS0]
      clear hS0 HVS HC0 HC1 HC8 HCO HCL HOV zS zN;have d8:=(HLD.out w1 (Below.refl _ _)).1;go_wp2;clear d8
      go_loopg [3,6] m (fun kk v3 v6 wr=>∃(k:Nat) (S2:ByteArray),v6=.int .i64 k∧v3=.string S2∧S2=bytesOf (T0++sepB [32,62,32] ((ps.map prPl).take k))∧kk+k=m∧Hid (Below w1.heap.size w1 wr))
      case atStart=>exact⟨0,_,rfl,rfl,by rw[HS0.out];simp[sepB],by omega,qh (Below.refl _ _)⟩
      case round =>
       obtain⟨k,S2,rfl,rfl,hS2,hk2,HB2⟩:=hrel;obtain⟨d8,hbw2,_⟩:=HLD.out wr HB2.out;have zS2:S2.size≤1000000000000000:=by rw[hS2,sz_b,la9];have:=HSEP.out k om;omega
       have HS2:=qh hS2;clear hS2
       by_cases hkm:k<m
       · have hkl:k<ps.length:=by have:=HM.out;omega
         obtain⟨pb,po,pp,rfl,hpb,hpr,hpin⟩:=zc4 (HPI.out.keep (Keep.of_below hbw2 F)) k hkl;have hkk:(k:Int)<(m:Int):=om;have HQW:=qh (HPW.out k hkl);have HQI:=qh hpin;have HLK:=qh (HSEP.out (k+1) om);have HK1:=qh (HPS.out k hkl);have HK00:=HP0.out om;have hget:k=0→ps[0]'om=ps[k]:=fun h=>by subst h;rfl
         clear HPS HP0 HPW HPI hpin HSEP hbw2;generalize ps[k]=q at *
         have hbnd:(prPl q).length≤999999999999950:=by
          have h1:=HLK.out
          by_cases h0:k=0
          · subst h0;rw[HK00,hget rfl]at h1;omega
          · rw[HK1.out om]at h1;simp only[List.length_append]at h1;omega
         have HKV:Hid (sepB [32,62,32] ((ps.map prPl).take (k+1))=(if k=0 then [] else sepB [32,62,32] ((ps.map prPl).take k)++[32,62,32])++prPl q):=by
          show _=_
          by_cases h0:k=0
          · subst h0;rw[if_pos rfl,HK00,hget rfl];rfl
          · rw[if_neg h0,HK1.out om]
         clear HK1 HK00 hget HLK;have hpq:prPl q=tx q.node.name++prAt 64 q.delay++prAt 33 q.flags:=rfl;rw[hpq]at HKV hbnd;clear hpq;simp only[List.length_append]at hbnd
         obtain⟨base,HB0,HKB⟩:∃base,Hid (T0++sepB [32,62,32] ((ps.map prPl).take (k+1))=base++(tx q.node.name++prAt 64 q.delay++prAt 33 q.flags))∧((¬(0:Int)<(k:Int)∧Hid (S2=bytesOf base))∨((0:Int)<(k:Int)∧Hid (S2++{ data:=#[32,62,32] } = bytesOf base))):=by
          by_cases h0:k=0
          · refine⟨T0,?_,.inl ⟨by omega,?_⟩⟩
            · show _=_;rw[HKV.out,if_pos h0];rfl
            · show _=_;rw[HS2.out,h0];simp[sepB]
          · refine⟨T0++sepB [32,62,32] ((ps.map prPl).take k)++[32,62,32],?_,.inr ⟨by omega,?_⟩⟩
            · show _=_;rw[HKV.out,if_neg h0];simp[List.append_assoc]
            · show _=_;rw[HS2.out,show({ data:=#[32,62,32] } : ByteArray)=bytesOf [32,62,32] from rfl,zab]
         clear HKV HS2;have hat:∀(mm:UInt8) (e:Ex),e.op≠zs→prAt mm e=mm :: par (!(decide (e.op=k_number)|| decide (e.op=k_name))) (prE e):=fun mm e he=>by unfold prAt;rw[if_neg he]
         have hpar:∀(bb:Bool) (l:List UInt8),l.length≤(par bb l).length:=fun bb l=>by cases bb <;> simp[par] <;> omega
         have HXD:q.delay.op≠zs→Hid (RW wr 38 [.agg (exC q.delay pp.1).toArray] (bytesOf (par (!(decide (q.delay.op=k_number)|| decide (q.delay.op=k_name))) (prE q.delay)))):=fun he W hW=>zd1 HQW.out.1 pp.1 (by have:=hat 64 q.delay he;rw[this,List.length_cons]at hbnd;have:=hpar (!(decide (q.delay.op=k_number)|| decide (q.delay.op=k_name))) (prE q.delay);omega) W (HQI.out.1.keep (Keep.of_below hW F))
         have HXF:q.flags.op≠zs→Hid (RW wr 38 [.agg (exC q.flags pp.2).toArray] (bytesOf (par (!(decide (q.flags.op=k_number)|| decide (q.flags.op=k_name))) (prE q.flags)))):=fun he W hW=>zd1 HQW.out.2 pp.2 (by have:=hat 33 q.flags he;rw[this,List.length_cons]at hbnd;have:=hpar (!(decide (q.flags.op=k_number)|| decide (q.flags.op=k_name))) (prE q.flags);omega) W (HQI.out.2.keep (Keep.of_below hW F))
         obtain⟨EN,hEN⟩:=ex9 (q.node.name);have eEN:EN=bytesOf (tx q.node.name):=by rw[zaz];exact hEN
         have zEN:EN.size≤1000000000000000:=by rw[eEN,sz_b];omega
         have HCP:Hid (∀W,Below wr.heap.size wr W→W.rangeAt pb (po+k*12) (plC q pp)):=fun W hW j v hv=>(World.cell?_of_block (a:=⟨pb,po+k*12+j,none⟩) (hW.block pb hpb)).trans (hpr j v hv)
         have HP0:Hid ((plC q pp)[0]? = some (.string EN)):=by show _=_;rw[hEN];rfl
         have HP2:Hid ((plC q pp)[2]? = some (.string q.delay.op)):=rfl;have HP7:Hid ((plC q pp)[7]? = some (.string q.flags.op)):=rfl;obtain⟨CD,hCD⟩:=ex9 (exC q.delay pp.1);obtain⟨CF,hCF⟩:=ex9 (exC q.flags pp.2);have HKD:Hid (∀j v,CD[j]? = some v→(plC q pp)[2+j]? = some v):=by show ∀j v,_;rw[hCD];exact plC_d q pp
         have HKF:Hid (∀j v,CF[j]? = some v→(plC q pp)[7+j]? = some v):=by show ∀j v,_;rw[hCF];exact plC_f q pp
         have HLD5:Hid (CD.length=5∧CF.length=5):=by show _∧_;rw[hCD,hCF];exact⟨rfl,rfl⟩
         rw[←hCD]at HXD;rw[←hCF]at HXF;have zD:q.delay.op≠zs→(bytesOf (par (!(decide (q.delay.op=k_number)|| decide (q.delay.op=k_name))) (prE q.delay))).size≤1000000000000000:=fun he=>by have:=hat 64 q.delay he;rw[this,List.length_cons]at hbnd;rw[sz_b];omega
         have zF:q.flags.op≠zs→(bytesOf (par (!(decide (q.flags.op=k_number)|| decide (q.flags.op=k_name))) (prE q.flags))).size≤1000000000000000:=fun he=>by have:=hat 33 q.flags he;rw[this,List.length_cons]at hbnd;rw[sz_b];omega
         have HVD:(q.delay.op=zs→prAt 64 q.delay=[])∧(q.delay.op≠zs→bytesOf (prAt 64 q.delay) = { data:=#[64] }++bytesOf (par (!(decide (q.delay.op=k_number)|| decide (q.delay.op=k_name))) (prE q.delay))):=⟨fun h=>by unfold prAt;rw[if_pos h],fun h=>by rw[hat 64 _ h,show({ data:=#[64] } : ByteArray)=bytesOf [64] from rfl,zab];rfl⟩;have HVF:(q.flags.op=zs→prAt 33 q.flags=[])∧(q.flags.op≠zs→bytesOf (prAt 33 q.flags) = { data:=#[33] }++bytesOf (par (!(decide (q.flags.op=k_number)|| decide (q.flags.op=k_name))) (prE q.flags))):=⟨fun h=>by unfold prAt;rw[if_pos h],fun h=>by rw[hat 33 _ h,show({ data:=#[33] } : ByteArray)=bytesOf [33] from rfl,zab];rfl⟩;generalize bytesOf (par (!(decide (q.delay.op=k_number)|| decide (q.delay.op=k_name))) (prE q.delay))=XD at *;generalize bytesOf (par (!(decide (q.flags.op=k_number)|| decide (q.flags.op=k_name))) (prE q.flags))=XF at *;generalize prAt 64 q.delay=AD at *;generalize prAt 33 q.flags=AF at *;generalize q.delay.op=OD at *;generalize q.flags.op=OF at *;clear hat hpar hbnd HQW HQI hEN hCD hCF;generalize plC q pp=CP at *;have HW3:Hid (∀W,Below wr.heap.size wr W→Below w1.heap.size w1 W∧W.cell? ⟨wo.heap.size,8,none⟩=some (.slice (some ⟨pb,po,none⟩) m pd)):=fun W hW=>⟨HB2.out.trans (hW.mono HB2.out.size),(HLD.out W (HB2.out.trans (hW.mono HB2.out.size))).1⟩
         have p0:wr.cell? ⟨pb,po+k*12,none⟩=some (.string EN):=HCP.out wr (Below.refl _ _) 0 _ HP0.out;have p2:wr.cell? ⟨pb,po+k*12+2,none⟩=some (.string OD):=HCP.out wr (Below.refl _ _) 2 _ HP2.out;clear hpr;have HEN:=qh eEN;clear eEN;have p7:wr.cell? ⟨pb,po+k*12+7,none⟩=_:=HCP.out wr (Below.refl _ _) 7 _ HP7.out;have ld2:(ldAt 39 (.pointer (some ⟨pb,po+k*12+2,none⟩))).run Tryz.prog wr=.ok (.agg CD.toArray) wr:=run_loadAt_mid wr pb (po+k*12+2) 39 CD _ (by intro j v hv;have h1:=HCP.out wr (Below.refl _ _) (2+j) v (HKD.out j v hv);rw[←Nat.add_assoc]at h1;exact h1) Tryz.underlying39 rfl (by rw[HLD5.out.1];exact hdEx);have ld7:(ldAt 39 (.pointer (some ⟨pb,po+k*12+7,none⟩))).run Tryz.prog wr=.ok (.agg CF.toArray) wr:=run_loadAt_mid wr pb (po+k*12+7) 39 CF _ (by intro j v hv;have h1:=HCP.out wr (Below.refl _ _) (7+j) v (HKF.out j v hv);rw[←Nat.add_assoc]at h1;exact h1) Tryz.underlying39 rfl (by rw[HLD5.out.2];exact hdEx)
         rcases HKB with ⟨hk0,HE⟩|⟨hk0,HE⟩
         all_goals rcases Classical.em (OD=zs)with hd|hd
         all_goals (first|(have hvd:=qh (HVD.1 hd);subst hd;have hd:=trivial)| (have hvd:=qh (HVD.2 hd);have zd:=zD hd;have HXd:=HXD hd;have s1:(OD.toList == [])=false:=strl hd))
         all_goals rcases Classical.em (OF=zs)with hf|hf
         all_goals (first|(have hvf:=qh (HVF.1 hf);subst hf;have hf:=trivial)| (have hvf:=qh (HVF.2 hf);have zf:=zF hf;have HXf:=HXF hf;have s2:(OF.toList == [])=false:=strl hf))
         all_goals clear HVD HXD zD HVF HXF zF hd hf
         all_goals
           go_wp2_with (first
            | (go_at_call 38;(have hz:=ld2;clear hz);(refine(HXd.out _ (Below.refl _ _)).mono ?_);rintro r w3 ⟨rfl,hB3⟩;have H3:Hid (Below wr.heap.size wr w3):=hB3;have d8b:=(HW3.out w3 hB3).2;clear p7 ld7;have p7:w3.cell? ⟨pb,po+k*12+7,none⟩=_:=HCP.out w3 H3.out 7 _ HP7.out;have ld7:(ldAt 39 (.pointer (some ⟨pb,po+k*12+7,none⟩))).run Tryz.prog w3=.ok (.agg CF.toArray) w3:=run_loadAt_mid w3 pb (po+k*12+7) 39 CF _ (by intro j v hv;have h1:=HCP.out w3 H3.out (7+j) v (HKF.out j v hv);rw[←Nat.add_assoc]at h1;exact h1) Tryz.underlying39 rfl (by rw[HLD5.out.2];exact hdEx);clear hB3 ld2 d8 p0 p2)
            | (go_at_call 38;(refine(HXf.out _ (by first|exact H3.out|exact Below.refl _ _)).mono ?_);rintro r w4 ⟨rfl,hB4⟩;have H4:Hid (Below wr.heap.size wr w4):=(by first|exact H3.out.trans (hB4.mono H3.out.size)| exact hB4);clear hB4 ld7))
           go_roundg (m-(k+1))
           case measure=>omega
           case rel=>exact⟨k+1,_,by simp,rfl,by rw[HB0.out];simp only[←zab,hvd.out,hvf.out,←HEN.out,←HE.out,List.append_nil,ByteArray.append_assoc],by omega,qh (HW3.out _ (by first|exact H4.out|exact H3.out|exact Below.refl _ _)).1⟩
       · have hkk:¬(k:Int)<(m:Int):=om
         obtain rfl:k=m:=om;have HB9:Hid (Below (G+1) W1 wr):=(HLD.out wr HB2.out).2.2
         have HVV:Hid (S2++{ data:=#[59,10] } = bytesOf ((ds.take (i+1)).flatMap prDc)):=by
          show _=_
          rw[HVE.out,HS2.out,HPN.out,show({ data:=#[59,10] } : ByteArray)=bytesOf [59,10] from rfl,zab]
         clear HPS HP0 HPW HPI HSEP;go_wp2;go_roundg (n-(i+1))
         case measure=>omega
         case rel=>exact⟨i+1,_,by simp,rfl,by rw[←HVV.out],by omega,HB9⟩
    · have hf:prDc dd=[63]++[59,10]:=by unfold prDc;rw[if_neg hk2,if_neg hk3]
      rw[hf]at HSI
      have HV:Hid (S++{ data:=#[63,59,10] } = bytesOf ((ds.take (i+1)).flatMap prDc)):=by
       show _=_
       rw[HSI.out,HS.out,show({ data:=#[63,59,10] } : ByteArray)=bytesOf [63,59,10] from rfl,←zab]
       rfl
      have HC0:Hid ((dcC dd p)[0]? = some (.string dd.kind)):=rfl;obtain⟨K,hK⟩:=ex9 (dd.kind);rw[←hK]at HC0 hk2 hk3;have t1:(K.toList == [108,101,116])=false:=strl hk2;have t2:(K.toList == [114,111,117,116,101])=false:=strl hk3;clear hf hK hk2 hk3 HSI HLI HDI HXI eN hXN;generalize dcC dd p=C at *
      go_wp2_with (refine zaa rfl 45 (.tmp 5) (.tmp 18) rfl wo.heap.size C rr rr 45 (dcC zDc pl0) (by exact Blk.new' rfl rfl) (by rw[HCL.out];exact hdDc) HCO.out HCL.out ?_;intro w1 hb1 ho1;have HB1:=qh hb1;have H1:=qh (HOV.out w1 _ ho1);have c0:w1.cell? ⟨wo.heap.size,0,none⟩=some (.string K):=(hb1.cell 0).trans HC0.out;have hlt1:=H1.out.2.2;clear hb1 ho1 hld2)
      go_roundg (n-(i+1))
      case measure=>omega
      case rel=>exact⟨i+1,_,by simp,rfl,by rw[←HV.out],by omega,qh H1.out.1⟩
  · have hii:¬(i:Int)<(n:Int):=om
    obtain rfl:i=n:=om;have HBI:=(HBX.out wo HB.out).2.2.2;have HBI2:=qh HBI
    have HVV:Hid (S++bytesOf (prSs bs 0)=bytesOf (ds.flatMap prDc++prSs bs 0)):=by
     show _=_
     rw[HS.out,HSN.out,zab]
    have HBQ:=qh (HBS.out wo HBI);generalize bytesOf (prSs bs 0)=SB at *;clear HDD HS1 HSL HXX HLB HBS HBI;have hgw:G≤wo.heap.size:=by have:=HB.out.size;have:=HSZ.out;omega
    go_wp2_with (go_at_call 39;(refine HBQ.out.mono ?_);rintro r w2 ⟨rfl,hB2⟩;have H2:Hid (Below G w w2):=HBI2.out.trans (hB2.mono hgw);clear hB2)
    go_ret;exact⟨by rw[←HVV.out];rfl,HGE.out _ H2.out⟩
end
end
end Go.Proofs.YtafjkbbiaopemaaGreatDoor.Tr
