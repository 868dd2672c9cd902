/- TreeOpens: a document is a source's tree beside its print: for every source the law returns true. -/
import Derived.Test.YtafjkbbiaopemaaGreatDoorTie
import Derived.Test.YtafjkbbiaopemaaGreatDoorCards
import Derived.LaidMore
import Derived.LaidHandle
import Derived.ChangeSame
import Derived.SevenTiedAt
import Derived.LaidSub
import Derived.MakeChecks
import Derived.Test.YtafjkbbiaopemaaGreatDoorOpx31
set_option linter.all false
set_option maxRecDepth 100000
set_option maxHeartbeats 0
namespace Go.Proofs.YtafjkbbiaopemaaGreatDoor.Tr
open Go.RowKit
section
section
variable{w w':World}
theorem zap(E:ByteArray):({ data:=#[] } : ByteArray)++E=E:=by apply ByteArray.ext;simp
theorem zjd:bytesOf [] = { data:=#[] }:=rfl
theorem zef{F:Nat→Prop}(A:Option Addr)(l:List Rf)(n ca:Nat)(hn:l.length=n)(hn8:n≤1000000)(w:World)(hA:RfsIn F w A l)(hl:(prR l).length+10≤1000000000):Calls Tryz.prog 102 #[.slice A n ca] w fun r w'=>r=.returned (.string (bytesOf (prR l)))∧Below w.heap.size w w':=by
 have HA:=qh hA;have HN:=qh hn
 have HSL:Hid (∀i,i≤n→(bytesOf (sepB [44,32] ((l.map fun r=>tx r.name).take i))).size≤1000000000):=fun i hi=>by
  have h1:=zek [44,32] (l.map fun r=>tx r.name) (n-i) i (by simp;omega);rw[sz_b]
  unfold prR at hl
  omega
 have hpi:∀i (hi:i<l.length),(l.map fun r=>tx r.name)[i]? = some (tx l[i].name):=fun i hi=>by rw[List.getElem?_map,ge9 hi];rfl
 have HS1:Hid (∀i (hi:i<l.length),0<i→sepB [44,32] ((l.map fun r=>tx r.name).take (i+1))=sepB [44,32] ((l.map fun r=>tx r.name).take i)++[44,32]++tx l[i].name):=fun i hi h0=>zcm h0 (hpi i hi)
 have HS0:Hid (∀(hi:0<l.length),sepB [44,32] ((l.map fun r=>tx r.name).take 1)=tx l[0].name):=fun hi=>zdq (hpi 0 hi)
 have HSN:Hid (sepB [44,32] ((l.map fun r=>tx r.name).take n)=prR l):=(by show _=_;rw[tk (by simp;omega)];rfl);clear hA hn hl hpi;have hn9:(n:Int)≤1000000:=om
 go_enter Tryz.func102, Tryz.ntmps102
 go_wp2
 go_loopg [3,4] n (fun kk v3 v4 wr=>∃(i:Nat) (S:ByteArray),v4=.int .i64 i∧v3=.string S∧S=bytesOf (sepB [44,32] ((l.map fun r=>tx r.name).take i))∧kk+i=n∧Hid (Below w.heap.size w wr))
 case atStart=>exact⟨0,_,rfl,rfl,rfl,rfl,qh (Below.refl _ _)⟩
 case round =>
  obtain⟨i,S,rfl,rfl,hS,hk,HB⟩:=hrel;have hSz:S.size≤1000000000:=by rw[hS];exact HSL.out i om
  have HS:=qh hS;clear hS
  by_cases hi:i<n
  · have hil:i<l.length:=by have:=HN.out;omega
    obtain⟨b1,o1,rfl,hb1,x1,y1⟩:=zep (HA.out.keep (Keep.of_below HB.out F)) i hil;have hii:(i:Int)<(n:Int):=om;have HSI:=qh (HS1.out i hil);have HS00:=HS0.out om;have hget:i=0→l[0]'om=l[i]:=fun h=>by subst h;rfl
    obtain⟨E,hE⟩:=ex9 (l[i].name)
    have hEz:E.size≤1000000000:=by
     have h1:=HSL.out (i+1) hi;rw[sz_b]at h1;have h2:E.size=(tx l[i].name).length:=by rw[hE];rfl
     by_cases h0:i=0
     · subst h0
       rw[HS0.out hil]at h1;omega
     · rw[HS1.out i hil om]at h1
       simp only[List.length_append]at h1;omega
    rw[←hE]at x1;have HE:=qh hE;clear hE y1 HS0 HS1 HSL
    by_cases h0:i=0
    · have HE1:Hid (sepB [44,32] ((l.map fun r=>tx r.name).take 1)=tx E):=HS00.trans (by rw[hget h0,HE.out])
      clear HS00 hget HE;subst h0;simp only[Nat.zero_mul,Nat.add_zero]at x1;go_wp2;go_roundg (n-1)
      case measure=>omega
      case rel=>exact⟨1,_,by simp,rfl,by rw[HE1.out,HS.out,zbe];simp[sepB,zjd];exact zap E,by omega,HB⟩
    · have hi0:(0:Int)<(i:Int):=om
      clear HS00 hget;go_wp2;go_roundg (n-(i+1))
      case measure=>omega
      case rel=>exact⟨i+1,_,by simp,rfl,by rw[HSI.out om,HS.out,←zac,←zac,←HE.out,zbe];rfl,by omega,HB⟩
  · have hii:¬(i:Int)<(n:Int):=om
    obtain rfl:i=n:=om;clear HS0 HS1 HSL;go_wp2;go_ret;exact⟨by rw[HS.out,HSN.out];rfl,HB.out⟩
theorem zgf(T:ByteArray)(hT:T.size≤100)(r:Rf)(hr:(tx r.name).length≤1000000000)(w:World):Calls Tryz.prog 103 #[.string T,.agg #[.string r.name,.int .i64 r.at_]] w fun e w'=>e=.returned (.string (bytesOf (nmd (32 :: (tx T++[32])) r)))∧Below w.heap.size w w':=by
 obtain⟨nm,at_⟩:=r;dsimp only at hr ⊢;have hsz:nm.size≤1000000000:=hr;have HB:Hid (Below w.heap.size w (w.alloc (.cells #[.string nm,.int .i64 at_] 36))):=(Below.refl _ _).alloc lr _;clear hr
 by_cases h:nm=zs
 · subst h
   go_enter Tryz.func103, Tryz.ntmps103
   go_wp2;go_ret;exact⟨rfl,HB.out⟩
 · have h2:(nm.toList == [])=false:=strl (by exact h)
   have HV:Hid (bytesOf (nmd (32 :: (tx T++[32])) ⟨nm,at_⟩) = { data:=#[32] }++T++{ data:=#[32] }++nm):=by
    show _=_
    unfold nmd
    rw[if_neg h,show(32 :: (tx T++[32])++tx nm:List UInt8)=[32]++tx T++[32]++tx nm by simp,←zac,←zac,←zac,zbe,zbe]
    rfl
   rw[HV.out];clear h HV
   go_enter Tryz.func103, Tryz.ntmps103
   go_wp2;go_ret;exact⟨rfl,HB.out⟩
theorem ze7{F:Nat→Prop}{e:Ex}(h:ExOk e)(a:Option Addr × Nat)(hl:(prE e).length+10≤1000000000)(w:World)(hA:ArgsIn F w a.1 e.args):Calls Tryz.prog 38 #[.agg (exC e a).toArray] w fun r w'=>r=.returned (.string (bytesOf (par (!(decide (e.op=k_number)|| decide (e.op=k_name))) (prE e))))∧Below w.heap.size w w':=by
 have HX:Hid (∀W,Below w.heap.size w W→Calls Tryz.prog 37 #[.agg (exC e a).toArray,.int .i64 0] W fun r w'=>r=.returned (.string (bytesOf (prE e)))∧Below W.heap.size W w'):=fun W hW=>by
  have h1:=zc3 h a 0 W om hl (hA.keep (Keep.of_below hW F))
  unfold rxR at h1
  simpa[par] using h1
 have hs:(bytesOf (prE e)).size≤1000000000:=by rw[sz_b];omega
 have HW0:Hid (∀W,W=w.alloc (.cells (exC e a).toArray 39)→Below w.heap.size w W∧Blk W w.heap.size 39 (exC e a)):=by
  rintro W rfl;exact⟨(Below.refl _ _).alloc lr _,Blk.new _ _ _⟩
 generalize hPE:prE e=PE at *
 have HV1:Hid (bytesOf (par true PE) = { data:=#[40] }++bytesOf PE++{ data:=#[41] }):=by
  show _=_
  rw[par_t,show ∀L:List UInt8,(40 :: (L++[41]):List UInt8)=[40]++L++[41] from fun _=>rfl,←zac,←zac]
  rfl
 have HV0:Hid (bytesOf (par false PE)=bytesOf PE):=by show _=_;rw[par_f]
 clear hl hPE h hA;generalize bytesOf PE=S at *;generalize hr:exC e a=C at *;have hC:C=[.string e.op,.int .i64 e.num,.string e.text,.int .i64 e.at_,.slice a.1 e.args.length a.2]:=by rw[←hr];rfl
 clear hr;generalize e.op=op at *;generalize e.args.length=m at *;generalize e.num=n1 at *;generalize e.text=n2 at *;generalize e.at_=n3 at *;subst hC
 by_cases h1:op=k_number
 · subst h1
   simp only[decide_true,Bool.true_or,Bool.not_true];rw[HV0.out];clear HV0 HV1
   go_enter Tryz.func38, Tryz.ntmps38
   go_wp2_with (go_at_call 37;(refine(HX.out _ (by exact(HW0.out _ rfl).1)).mono ?_);rintro r w2 ⟨rfl,hB2⟩;have H2:Hid (Below w.heap.size w w2∧Blk w2 w.heap.size 39 _):=⟨(HW0.out _ rfl).1.trans (hB2.mono (HW0.out _ rfl).1.size),(HW0.out _ rfl).2.below hB2 (HW0.out _ rfl).2.lt⟩;have c0:w2.cell? ⟨w.heap.size,0,none⟩=_:=H2.out.2.cell 0;clear hB2)
   go_ret;exact⟨rfl,H2.out.1⟩
 · have s1:(op.toList == [110,117,109,98,101,114])=false:=strl h1
   by_cases h2:op=k_name
   · subst h2
     have HD:Hid ((!(decide ((k_name:ByteArray)=k_number)|| decide ((k_name:ByteArray)=k_name)))=false):=by show _=_;decide
     rw[HD.out,HV0.out];clear HV0 HV1 HD h1
     go_enter Tryz.func38, Tryz.ntmps38
     go_wp2_with (go_at_call 37;(refine(HX.out _ (by exact(HW0.out _ rfl).1)).mono ?_);rintro r w2 ⟨rfl,hB2⟩;have H2:Hid (Below w.heap.size w w2∧Blk w2 w.heap.size 39 _):=⟨(HW0.out _ rfl).1.trans (hB2.mono (HW0.out _ rfl).1.size),(HW0.out _ rfl).2.below hB2 (HW0.out _ rfl).2.lt⟩;have c0:w2.cell? ⟨w.heap.size,0,none⟩=_:=H2.out.2.cell 0;clear hB2)
     go_ret;exact⟨rfl,H2.out.1⟩
   · have s2:(op.toList == [110,97,109,101])=false:=strl h2
     have HD:Hid ((!(decide (op=k_number)|| decide (op=k_name)))=true):=by show _=_;simp[h1,h2]
     rw[HD.out,HV1.out];clear HV0 HV1 HD h1 h2
     go_enter Tryz.func38, Tryz.ntmps38
     go_wp2_with (go_at_call 37;(refine(HX.out _ (by exact(HW0.out _ rfl).1)).mono ?_);rintro r w2 ⟨rfl,hB2⟩;have H2:Hid (Below w.heap.size w w2∧Blk w2 w.heap.size 39 _):=⟨(HW0.out _ rfl).1.trans (hB2.mono (HW0.out _ rfl).1.size),(HW0.out _ rfl).2.below hB2 (HW0.out _ rfl).2.lt⟩;have c0:w2.cell? ⟨w.heap.size,0,none⟩=_:=H2.out.2.cell 0;clear hB2)
     go_ret;exact⟨rfl,H2.out.1⟩
end
end
section
theorem agRfs(w:World):(isAgg 40).run Tryz.prog w=.ok false w:=by kernel_rfl
section
variable{w w':World}
attribute [local go_sem ↓] zh3
theorem zru{F:Nat→Prop}(s:St)(p:StA)(hk:s.kind=k_send)(hin:LIn F w s p)(hl:(rHd s).length+10≤1000000000):Calls Tryz.prog 77 #[.agg (stC s p).toArray] w fun r w'=>r=.returned (.tuple #[.string (bytesOf (rHd s)),.bool false])∧Below w.heap.size w w':=by
 have HD:rHd s=[115,101,110,100,32]++prE s.ea++[32,118,105,97,32]++prR s.routes++nmd t_with s.block++nmd t_as s.tag:=by
  unfold rHd
  rw[hk]
  first|rfl|(unfold prLine;rfl)
 rw[HD]at hl ⊢;obtain⟨XA,hXA⟩:=ex9 (bytesOf (prE s.ea));have eA:=hXA
 have HXA:Hid (RW w 37 [.agg (exC s.ea p.a).toArray,.int .i64 0] XA):=fun W hW=>by
  have h1:=zc3 hin.oa p.a 0 W om (by simp only[List.length_append]at hl;omega) (hin.a.keep (Keep.of_below hW F))
  unfold rxR at h1
  rw[hXA]
  simpa[par] using h1
 obtain⟨XR,hXR⟩:=ex9 (bytesOf (prR s.routes));have eR:=hXR
 have HXR:Hid (RW w 102 [.slice p.r.1 s.routes.length p.r.2] XR):=fun W hW=>by
  rw[hXR];exact zef p.r.1 s.routes _ p.r.2 rfl hin.hr W (hin.r.keep (Keep.of_below hW F)) (by simp only[List.length_append]at hl;omega)
 obtain⟨XW,hXW⟩:=ex9 (bytesOf (nmd t_with s.block));have eW:=hXW
 have HXW:Hid (∀W,Calls Tryz.prog 103 #[.string k_with,.agg (rfC s.block).toArray] W fun r w'=>r=.returned (.string XW)∧Below W.heap.size W w'):=fun W=>by
  rw[hXW];refine zgf k_with (by decide) s.block ?_ W;have h1:(nmd t_with s.block).length≤1000000000:=by simp only[List.length_append]at hl;omega
  unfold nmd at h1
  split at h1
  · rename_i h2;rw[h2];decide
  · simp only[List.length_append]at h1;omega
 obtain⟨XT,hXT⟩:=ex9 (bytesOf (nmd t_as s.tag));have eT:=hXT
 have HXT:Hid (∀W,Calls Tryz.prog 103 #[.string k_as,.agg (rfC s.tag).toArray] W fun r w'=>r=.returned (.string XT)∧Below W.heap.size W w'):=fun W=>by
  rw[hXT];refine zgf k_as (by decide) s.tag ?_ W;have h1:(nmd t_as s.tag).length≤1000000000:=by simp only[List.length_append]at hl;omega
  unfold nmd at h1
  split at h1
  · rename_i h2;rw[h2];decide
  · simp only[List.length_append]at h1;omega
 have zA:XA.size≤(prE s.ea).length:=by rw[eA,sz_b];exact lr
 have ZZA:Hid (XA.size≤1000000000):=by show _≤_;simp only[List.length_append]at hl;omega
 have zR:XR.size≤(prR s.routes).length:=by rw[eR,sz_b];exact lr
 have ZZR:Hid (XR.size≤1000000000):=by show _≤_;simp only[List.length_append]at hl;omega
 have zW:XW.size≤(nmd t_with s.block).length:=by rw[eW,sz_b];exact lr
 have ZZW:Hid (XW.size≤1000000000):=by show _≤_;simp only[List.length_append]at hl;omega
 have zT:XT.size≤(nmd t_as s.tag).length:=by rw[eT,sz_b];exact lr
 have ZZT:Hid (XT.size≤1000000000):=by show _≤_;simp only[List.length_append]at hl;omega
 have y0:({ data:=#[115,101,110,100,32] } : ByteArray).size≤30:=by decide
 have y1:({ data:=#[32,118,105,97,32] } : ByteArray).size≤30:=by decide
 have HCT:Hid (({ data:=#[115,101,110,100,32] } : ByteArray).size+(XA:ByteArray).size≤9223372036854775807∧({ data:=#[115,101,110,100,32] }++XA:ByteArray).size+({ data:=#[32,118,105,97,32] } : ByteArray).size≤9223372036854775807∧({ data:=#[115,101,110,100,32] }++XA++{ data:=#[32,118,105,97,32] } : ByteArray).size+(XR:ByteArray).size≤9223372036854775807∧({ data:=#[115,101,110,100,32] }++XA++{ data:=#[32,118,105,97,32] }++XR:ByteArray).size+(XW:ByteArray).size≤9223372036854775807∧({ data:=#[115,101,110,100,32] }++XA++{ data:=#[32,118,105,97,32] }++XR++XW:ByteArray).size+(XT:ByteArray).size≤9223372036854775807∧True):=by
  simp only[List.length_append]at hl;refine⟨?_,?_,?_,?_,?_,trivial⟩ <;> (try simp only[ByteArray.size_append]) <;> omega
 have HV:Hid ({ data:=#[115,101,110,100,32] }++XA++{ data:=#[32,118,105,97,32] }++XR++XW++XT=bytesOf ([115,101,110,100,32]++prE s.ea++[32,118,105,97,32]++prR s.routes++nmd t_with s.block++nmd t_as s.tag)):=by
  show _=_
  rw[eA,eR,eW,eT,show({ data:=#[115,101,110,100,32] } : ByteArray)=bytesOf [115,101,110,100,32] from rfl,show({ data:=#[32,118,105,97,32] } : ByteArray)=bytesOf [32,118,105,97,32] from rfl];simp only[zac]
 obtain⟨V,hV⟩:=ex9 (bytesOf ([115,101,110,100,32]++prE s.ea++[32,118,105,97,32]++prR s.routes++nmd t_with s.block++nmd t_as s.tag));rw[←hV]at HV ⊢;obtain⟨C,hC⟩:=ex9 (stC s p);have HCL:Hid (C.length=26):=by show _=_;rw[hC];rfl
 have k0:C[0]? = some (.string k_send):=by rw[hC,←hk];rfl
 obtain⟨CA,hCA⟩:=ex9 (exC s.ea p.a);have kA:∀j v,CA[j]? = some v→C[4+j]? = some v:=by rw[hC,hCA];exact stC_a s p
 have lA:Hid (CA.length=5):=by show _=_;rw[hCA];rfl
 rw[←hCA]at HXA;have kR:C[19]? = some (.slice p.r.1 s.routes.length p.r.2):=by rw[hC];rfl
 have kW:∀j v,(rfC s.block)[j]? = some v→C[20+j]? = some v:=by rw[hC];exact stC_w s p
 have kT:∀j v,(rfC s.tag)[j]? = some v→C[22+j]? = some v:=by rw[hC];exact stC_t s p
 obtain⟨O,hO⟩:=ex9 (Obj.cells C.toArray 42 (0,0))
 have HLD:Hid (∀W,Below (w.heap.size+1) (w.alloc (.cells C.toArray 42)) W→W.rangeAt w.heap.size 4 CA∧W.cell? ⟨w.heap.size,19,none⟩=some (.slice p.r.1 s.routes.length p.r.2)∧W.rangeAt w.heap.size 20 (rfC s.block)∧W.rangeAt w.heap.size 22 (rfC s.tag)∧Below w.heap.size w W):=fun W hW=>by
  have hB:Blk W w.heap.size 42 C:=(Blk.new w 42 C).below hW om;exact⟨(hB.mid 4 _ kA),((hB.cell 19).trans kR),(hB.mid 20 _ kW),(hB.mid 22 _ kT),((Below.refl w.heap.size w).alloc lr _).trans (hW.mono (Nat.le_succ _))⟩
 have c0:(w.alloc (.cells C.toArray 42)).cell? ⟨w.heap.size,0,none⟩=some (.string k_send):=((Blk.new w 42 C).cell 0).trans k0;have hsz:(w.alloc (.cells C.toArray 42)).heap.size=w.heap.size+1:=by simp
 clear hin hl HD hV hO hXA eA zA hXR eR zR hXW eW zW hXT eT zT y0 y1 kA kR kW kT k0;rw[←hC];clear hk hC hCA
 go_enter Tryz.func77, Tryz.ntmps77
 go_upto_region 3 with fail
 obtain⟨W0,hW0⟩:=ex9 (w.alloc (.cells C.toArray 42));rw[←hW0]at HLD hsz ⊢;clear hW0 c0;have hT:Below W0.heap.size W0 W0.drew:=Below.drew (Below.refl _ _);rw[←hsz]at HLD;refine kgo kr 17 (fun W=>Below W0.heap.size W0 W) hT (fun _ _ _ _ _ h=>h) ?_;refine kp 0 (.pointer (some ⟨w.heap.size,4,none⟩)) rfl kr (fun _=>kr) ?_;refine kl 1 (.agg CA.toArray) rfl kr (fun w' hw'=>zak rfl kr (run_loadAt_mid w' w.heap.size 4 39 CA _ (HLD.out w' hw').1 Tryz.underlying39 rfl (by rw[lA.out];exact hdEx))) ?_;refine kp 5 (.pointer (some ⟨w.heap.size,19,none⟩)) rfl kr (fun _=>kr) ?_;refine kl 6 (.slice p.r.1 s.routes.length p.r.2) rfl kr (fun w' hw'=>zaq (t:=40) (x:=.tmp 13) rr kr agRfs (HLD.out w' hw').2.1) ?_;refine kp 9 (.pointer (some ⟨w.heap.size,20,none⟩)) rfl kr (fun _=>kr) ?_;refine kl 10 (.agg (rfC s.block).toArray) rfl kr (fun w' hw'=>zak rfl kr (run_loadAt_mid w' w.heap.size 20 36 (rfC s.block) _ (HLD.out w' hw').2.2.1 Tryz.underlying36 rfl hdRf)) ?_;refine kp 13 (.pointer (some ⟨w.heap.size,22,none⟩)) rfl kr (fun _=>kr) ?_;refine kl 14 (.agg (rfC s.tag).toArray) rfl kr (fun w' hw'=>zak rfl kr (run_loadAt_mid w' w.heap.size 22 36 (rfC s.tag) _ (HLD.out w' hw').2.2.2.1 Tryz.underlying36 rfl hdRf)) ?_;intro q8 q9;clear q8 q9;refine AnyK.enter 2 (d:=some 10) (f:=37) (args:=#[.agg CA.toArray,.int .i64 0]) rr kr kr ?_;refine(HXA.out _ (HLD.out _ hT).2.2.2.2).mono ?_;rintro r w1 ⟨rfl,hB1⟩;have hT1:Below W0.heap.size W0 w1:=hT.trans hB1;refine⟨_,rfl,fun _=>hT1,?_⟩;refine AnyK.pure 3 (v:=.string ({ data:=#[115,101,110,100,32] }++XA)) rfl kr (fun _ _ _ h=>h) rfl (fun _=>zay rr kr kr HCT.out.1) (fun _=>hT1) ?_;refine AnyK.pure 4 (v:=.string ({ data:=#[115,101,110,100,32] }++XA++{ data:=#[32,118,105,97,32] })) rfl kr (fun _ _ _ h=>h) rfl (fun _=>zay rr kr kr HCT.out.2.1) (fun _=>hT1) ?_;refine AnyK.enter 7 (d:=some 15) (f:=102) (args:=#[.slice p.r.1 s.routes.length p.r.2]) rr kr kr ?_;refine(HXR.out _ (HLD.out _ hT1).2.2.2.2).mono ?_;rintro r w2 ⟨rfl,hB2⟩;have hT2:Below W0.heap.size W0 w2:=hT1.trans (hB2.mono hT1.size);refine⟨_,rfl,fun _=>hT2,?_⟩;refine AnyK.pure 8 (v:=.string ({ data:=#[115,101,110,100,32] }++XA++{ data:=#[32,118,105,97,32] }++XR)) rfl kr (fun _ _ _ h=>h) rfl (fun _=>zay rr kr kr HCT.out.2.2.1) (fun _=>hT2) ?_;refine AnyK.enter 11 (d:=some 19) (f:=103) (args:=#[.string k_with,.agg (rfC s.block).toArray]) rr kr kr ?_;refine(HXW.out _).mono ?_;rintro r w3 ⟨rfl,hB3⟩;have hT3:Below W0.heap.size W0 w3:=hT2.trans (hB3.mono hT2.size);refine⟨_,rfl,fun _=>hT3,?_⟩;refine AnyK.pure 12 (v:=.string ({ data:=#[115,101,110,100,32] }++XA++{ data:=#[32,118,105,97,32] }++XR++XW)) rfl kr (fun _ _ _ h=>h) rfl (fun _=>zay rr kr kr HCT.out.2.2.2.1) (fun _=>hT3) ?_;refine AnyK.enter 15 (d:=some 23) (f:=103) (args:=#[.string k_as,.agg (rfC s.tag).toArray]) rr kr kr ?_;refine(HXT.out _).mono ?_;rintro r w4 ⟨rfl,hB4⟩;have hT4:Below W0.heap.size W0 w4:=hT3.trans (hB4.mono hT3.size);refine⟨_,rfl,fun _=>hT4,?_⟩;refine AnyK.pure 16 (v:=.string V) rfl kr (fun _ _ _ h=>h) rfl (fun _=>by rw[←HV.out];exact zay rr kr kr HCT.out.2.2.2.2.1) (fun _=>hT4) ?_;refine AnyK.val 17 (v:=.string V) rr kr rfl kr (fun h=>(by cases h)) ?_;refine AnyK.val 18 (v:=.bool false) rr kr rfl kr (fun h=>(by cases h)) ?_;have HB9:Hid (Below w.heap.size w _):=(HLD.out _ hT4).2.2.2.2;refine AnyK.done ?_ ?_
 · kernel_rfl
 clear HV HCT HLD hsz hT hT1 hB1 hT2 hB2 hT3 hB3 hT4 hB4 HXA HXR HXW HXT;simp only[List.getElem_toArray,List.getElem_cons_zero,List.getElem_cons_succ,Act.put,List.setIfInBounds_toArray,List.set_cons_succ,List.set_cons_zero];go_wp2;refine bodyPost_ret (results_tmp2 rfl _ _ _) rfl ?_;exact⟨rfl,HB9.out⟩
theorem zo4{F:Nat→Prop}(s:St)(p:StA)(hk:s.kind=k_split)(hin:LIn F w s p)(hl:(rHd s).length+10≤1000000000):Calls Tryz.prog 77 #[.agg (stC s p).toArray] w fun r w'=>r=.returned (.tuple #[.string (bytesOf (rHd s)),.bool false])∧Below w.heap.size w w':=by
 have HD:rHd s=[115,112,108,105,116,32]++prE s.ea++[32,118,105,97,32]++prR s.routes++nmd t_as s.tag:=by
  unfold rHd
  rw[hk]
  first|rfl|(unfold prLine;rfl)
 rw[HD]at hl ⊢;obtain⟨XA,hXA⟩:=ex9 (bytesOf (prE s.ea));have eA:=hXA
 have HXA:Hid (RW w 37 [.agg (exC s.ea p.a).toArray,.int .i64 0] XA):=fun W hW=>by
  have h1:=zc3 hin.oa p.a 0 W om (by simp only[List.length_append]at hl;omega) (hin.a.keep (Keep.of_below hW F))
  unfold rxR at h1
  rw[hXA]
  simpa[par] using h1
 obtain⟨XR,hXR⟩:=ex9 (bytesOf (prR s.routes));have eR:=hXR
 have HXR:Hid (RW w 102 [.slice p.r.1 s.routes.length p.r.2] XR):=fun W hW=>by
  rw[hXR];exact zef p.r.1 s.routes _ p.r.2 rfl hin.hr W (hin.r.keep (Keep.of_below hW F)) (by simp only[List.length_append]at hl;omega)
 obtain⟨XT,hXT⟩:=ex9 (bytesOf (nmd t_as s.tag));have eT:=hXT
 have HXT:Hid (∀W,Calls Tryz.prog 103 #[.string k_as,.agg (rfC s.tag).toArray] W fun r w'=>r=.returned (.string XT)∧Below W.heap.size W w'):=fun W=>by
  rw[hXT];refine zgf k_as (by decide) s.tag ?_ W;have h1:(nmd t_as s.tag).length≤1000000000:=by simp only[List.length_append]at hl;omega
  unfold nmd at h1
  split at h1
  · rename_i h2;rw[h2];decide
  · simp only[List.length_append]at h1;omega
 have zA:XA.size≤(prE s.ea).length:=by rw[eA,sz_b];exact lr
 have ZZA:Hid (XA.size≤1000000000):=by show _≤_;simp only[List.length_append]at hl;omega
 have zR:XR.size≤(prR s.routes).length:=by rw[eR,sz_b];exact lr
 have ZZR:Hid (XR.size≤1000000000):=by show _≤_;simp only[List.length_append]at hl;omega
 have zT:XT.size≤(nmd t_as s.tag).length:=by rw[eT,sz_b];exact lr
 have ZZT:Hid (XT.size≤1000000000):=by show _≤_;simp only[List.length_append]at hl;omega
 have y0:({ data:=#[115,112,108,105,116,32] } : ByteArray).size≤30:=by decide
 have y1:({ data:=#[32,118,105,97,32] } : ByteArray).size≤30:=by decide
 have HCT:Hid (({ data:=#[115,112,108,105,116,32] } : ByteArray).size+(XA:ByteArray).size≤9223372036854775807∧({ data:=#[115,112,108,105,116,32] }++XA:ByteArray).size+({ data:=#[32,118,105,97,32] } : ByteArray).size≤9223372036854775807∧({ data:=#[115,112,108,105,116,32] }++XA++{ data:=#[32,118,105,97,32] } : ByteArray).size+(XR:ByteArray).size≤9223372036854775807∧({ data:=#[115,112,108,105,116,32] }++XA++{ data:=#[32,118,105,97,32] }++XR:ByteArray).size+(XT:ByteArray).size≤9223372036854775807∧True):=by
  simp only[List.length_append]at hl;refine⟨?_,?_,?_,?_,trivial⟩ <;> (try simp only[ByteArray.size_append]) <;> omega
 have HV:Hid ({ data:=#[115,112,108,105,116,32] }++XA++{ data:=#[32,118,105,97,32] }++XR++XT=bytesOf ([115,112,108,105,116,32]++prE s.ea++[32,118,105,97,32]++prR s.routes++nmd t_as s.tag)):=by
  show _=_
  rw[eA,eR,eT,show({ data:=#[115,112,108,105,116,32] } : ByteArray)=bytesOf [115,112,108,105,116,32] from rfl,show({ data:=#[32,118,105,97,32] } : ByteArray)=bytesOf [32,118,105,97,32] from rfl];simp only[zac]
 obtain⟨V,hV⟩:=ex9 (bytesOf ([115,112,108,105,116,32]++prE s.ea++[32,118,105,97,32]++prR s.routes++nmd t_as s.tag));rw[←hV]at HV ⊢;obtain⟨C,hC⟩:=ex9 (stC s p);have HCL:Hid (C.length=26):=by show _=_;rw[hC];rfl
 have k0:C[0]? = some (.string k_split):=by rw[hC,←hk];rfl
 obtain⟨CA,hCA⟩:=ex9 (exC s.ea p.a);have kA:∀j v,CA[j]? = some v→C[4+j]? = some v:=by rw[hC,hCA];exact stC_a s p
 have lA:Hid (CA.length=5):=by show _=_;rw[hCA];rfl
 rw[←hCA]at HXA;have kR:C[19]? = some (.slice p.r.1 s.routes.length p.r.2):=by rw[hC];rfl
 have kT:∀j v,(rfC s.tag)[j]? = some v→C[22+j]? = some v:=by rw[hC];exact stC_t s p
 obtain⟨O,hO⟩:=ex9 (Obj.cells C.toArray 42 (0,0))
 have HLD:Hid (∀W,Below (w.heap.size+1) (w.alloc (.cells C.toArray 42)) W→W.rangeAt w.heap.size 4 CA∧W.cell? ⟨w.heap.size,19,none⟩=some (.slice p.r.1 s.routes.length p.r.2)∧W.rangeAt w.heap.size 22 (rfC s.tag)∧Below w.heap.size w W):=fun W hW=>by
  have hB:Blk W w.heap.size 42 C:=(Blk.new w 42 C).below hW om;exact⟨(hB.mid 4 _ kA),((hB.cell 19).trans kR),(hB.mid 22 _ kT),((Below.refl w.heap.size w).alloc lr _).trans (hW.mono (Nat.le_succ _))⟩
 have c0:(w.alloc (.cells C.toArray 42)).cell? ⟨w.heap.size,0,none⟩=some (.string k_split):=((Blk.new w 42 C).cell 0).trans k0;have hsz:(w.alloc (.cells C.toArray 42)).heap.size=w.heap.size+1:=by simp
 clear hin hl HD hV hO hXA eA zA hXR eR zR hXT eT zT y0 y1 kA kR kT k0;rw[←hC];clear hk hC hCA
 go_enter Tryz.func77, Tryz.ntmps77
 go_upto_region 5 with fail
 obtain⟨W0,hW0⟩:=ex9 (w.alloc (.cells C.toArray 42));rw[←hW0]at HLD hsz ⊢;clear hW0 c0;have hT:Below W0.heap.size W0 W0.drew:=Below.drew (Below.refl _ _);rw[←hsz]at HLD;refine kgo kr 13 (fun W=>Below W0.heap.size W0 W) hT (fun _ _ _ _ _ h=>h) ?_;refine kp 0 (.pointer (some ⟨w.heap.size,4,none⟩)) rfl kr (fun _=>kr) ?_;refine kl 1 (.agg CA.toArray) rfl kr (fun w' hw'=>zak rfl kr (run_loadAt_mid w' w.heap.size 4 39 CA _ (HLD.out w' hw').1 Tryz.underlying39 rfl (by rw[lA.out];exact hdEx))) ?_;refine kp 5 (.pointer (some ⟨w.heap.size,19,none⟩)) rfl kr (fun _=>kr) ?_;refine kl 6 (.slice p.r.1 s.routes.length p.r.2) rfl kr (fun w' hw'=>zaq (t:=40) (x:=.tmp 32) rr kr agRfs (HLD.out w' hw').2.1) ?_;refine kp 9 (.pointer (some ⟨w.heap.size,22,none⟩)) rfl kr (fun _=>kr) ?_;refine kl 10 (.agg (rfC s.tag).toArray) rfl kr (fun w' hw'=>zak rfl kr (run_loadAt_mid w' w.heap.size 22 36 (rfC s.tag) _ (HLD.out w' hw').2.2.1 Tryz.underlying36 rfl hdRf)) ?_;intro q8 q9;clear q8 q9;refine AnyK.enter 2 (d:=some 29) (f:=37) (args:=#[.agg CA.toArray,.int .i64 0]) rr kr kr ?_;refine(HXA.out _ (HLD.out _ hT).2.2.2).mono ?_;rintro r w1 ⟨rfl,hB1⟩;have hT1:Below W0.heap.size W0 w1:=hT.trans hB1;refine⟨_,rfl,fun _=>hT1,?_⟩;refine AnyK.pure 3 (v:=.string ({ data:=#[115,112,108,105,116,32] }++XA)) rfl kr (fun _ _ _ h=>h) rfl (fun _=>zay rr kr kr HCT.out.1) (fun _=>hT1) ?_;refine AnyK.pure 4 (v:=.string ({ data:=#[115,112,108,105,116,32] }++XA++{ data:=#[32,118,105,97,32] })) rfl kr (fun _ _ _ h=>h) rfl (fun _=>zay rr kr kr HCT.out.2.1) (fun _=>hT1) ?_;refine AnyK.enter 7 (d:=some 34) (f:=102) (args:=#[.slice p.r.1 s.routes.length p.r.2]) rr kr kr ?_;refine(HXR.out _ (HLD.out _ hT1).2.2.2).mono ?_;rintro r w2 ⟨rfl,hB2⟩;have hT2:Below W0.heap.size W0 w2:=hT1.trans (hB2.mono hT1.size);refine⟨_,rfl,fun _=>hT2,?_⟩;refine AnyK.pure 8 (v:=.string ({ data:=#[115,112,108,105,116,32] }++XA++{ data:=#[32,118,105,97,32] }++XR)) rfl kr (fun _ _ _ h=>h) rfl (fun _=>zay rr kr kr HCT.out.2.2.1) (fun _=>hT2) ?_;refine AnyK.enter 11 (d:=some 38) (f:=103) (args:=#[.string k_as,.agg (rfC s.tag).toArray]) rr kr kr ?_;refine(HXT.out _).mono ?_;rintro r w3 ⟨rfl,hB3⟩;have hT3:Below W0.heap.size W0 w3:=hT2.trans (hB3.mono hT2.size);refine⟨_,rfl,fun _=>hT3,?_⟩;refine AnyK.pure 12 (v:=.string V) rfl kr (fun _ _ _ h=>h) rfl (fun _=>by rw[←HV.out];exact zay rr kr kr HCT.out.2.2.2.1) (fun _=>hT3) ?_;refine AnyK.val 13 (v:=.string V) rr kr rfl kr (fun h=>(by cases h)) ?_;refine AnyK.val 14 (v:=.bool false) rr kr rfl kr (fun h=>(by cases h)) ?_;have HB9:Hid (Below w.heap.size w _):=(HLD.out _ hT3).2.2.2;refine AnyK.done ?_ ?_
 · kernel_rfl
 clear HV HCT HLD hsz hT hT1 hB1 hT2 hB2 hT3 hB3 HXA HXR HXT;simp only[List.getElem_toArray,List.getElem_cons_zero,List.getElem_cons_succ,Act.put,List.setIfInBounds_toArray,List.set_cons_succ,List.set_cons_zero];go_wp2;refine bodyPost_ret (results_tmp2 rfl _ _ _) rfl ?_;exact⟨rfl,HB9.out⟩
theorem zo7{F:Nat→Prop}(s:St)(p:StA)(hk:s.kind=k_cover)(hin:LIn F w s p)(hl:(rHd s).length+10≤1000000000):Calls Tryz.prog 77 #[.agg (stC s p).toArray] w fun r w'=>r=.returned (.tuple #[.string (bytesOf (rHd s)),.bool false])∧Below w.heap.size w w':=by
 have HD:rHd s=[99,111,118,101,114,32]++prR s.routes:=by
  unfold rHd
  rw[hk]
  first|rfl|(unfold prLine;rfl)
 rw[HD]at hl ⊢;obtain⟨XR,hXR⟩:=ex9 (bytesOf (prR s.routes));have eR:=hXR
 have HXR:Hid (RW w 102 [.slice p.r.1 s.routes.length p.r.2] XR):=fun W hW=>by
  rw[hXR];exact zef p.r.1 s.routes _ p.r.2 rfl hin.hr W (hin.r.keep (Keep.of_below hW F)) (by simp only[List.length_append]at hl;omega)
 have zR:XR.size≤(prR s.routes).length:=by rw[eR,sz_b];exact lr
 have ZZR:Hid (XR.size≤1000000000):=by show _≤_;simp only[List.length_append]at hl;omega
 have y0:({ data:=#[99,111,118,101,114,32] } : ByteArray).size≤30:=by decide
 have HCT:Hid (({ data:=#[99,111,118,101,114,32] } : ByteArray).size+(XR:ByteArray).size≤9223372036854775807∧True):=by
  simp only[List.length_append]at hl;refine⟨?_,trivial⟩ <;> (try simp only[ByteArray.size_append]) <;> omega
 have HV:Hid ({ data:=#[99,111,118,101,114,32] }++XR=bytesOf ([99,111,118,101,114,32]++prR s.routes)):=by
  show _=_
  rw[eR,show({ data:=#[99,111,118,101,114,32] } : ByteArray)=bytesOf [99,111,118,101,114,32] from rfl];simp only[zac]
 obtain⟨V,hV⟩:=ex9 (bytesOf ([99,111,118,101,114,32]++prR s.routes));rw[←hV]at HV ⊢;obtain⟨C,hC⟩:=ex9 (stC s p);have HCL:Hid (C.length=26):=by show _=_;rw[hC];rfl
 have k0:C[0]? = some (.string k_cover):=by rw[hC,←hk];rfl
 have kR:C[19]? = some (.slice p.r.1 s.routes.length p.r.2):=by rw[hC];rfl
 obtain⟨O,hO⟩:=ex9 (Obj.cells C.toArray 42 (0,0))
 have HLD:Hid (∀W,Below (w.heap.size+1) (w.alloc (.cells C.toArray 42)) W→W.cell? ⟨w.heap.size,19,none⟩=some (.slice p.r.1 s.routes.length p.r.2)∧Below w.heap.size w W):=fun W hW=>by
  have hB:Blk W w.heap.size 42 C:=(Blk.new w 42 C).below hW om;exact⟨((hB.cell 19).trans kR),((Below.refl w.heap.size w).alloc lr _).trans (hW.mono (Nat.le_succ _))⟩
 have c0:(w.alloc (.cells C.toArray 42)).cell? ⟨w.heap.size,0,none⟩=some (.string k_cover):=((Blk.new w 42 C).cell 0).trans k0;have hsz:(w.alloc (.cells C.toArray 42)).heap.size=w.heap.size+1:=by simp
 clear hin hl HD hV hO hXR eR zR y0 kR k0;rw[←hC];clear hk hC
 go_enter Tryz.func77, Tryz.ntmps77
 have HT0:Hid (Below (w.heap.size+1) (w.alloc (.cells C.toArray 42)) (w.alloc (.cells C.toArray 42))):=Below.refl _ _;have ldR:=(HLD.out _ HT0.out).1;have HV2:=HV;clear HV;have zzR:XR.size≤1000000000:=ZZR.out
 go_wp2_with (go_at_call 102;(refine(HXR.out _ (by exact(HLD.out _ HT0.out).2)).mono ?_);rintro r w2 ⟨rfl,hB2⟩;have H2:Hid (Below w.heap.size w w2):=(HLD.out _ HT0.out).2.trans (hB2.mono (HLD.out _ HT0.out).2.size);clear hB2)
 refine bodyPost_ret (results_tmp2 rfl _ _ _) rfl ?_;exact⟨by rw[←HV2.out];rfl,H2.out⟩
theorem zrt{F:Nat→Prop}(s:St)(p:StA)(hk:s.kind=k_wait)(hin:LIn F w s p)(hl:(rHd s).length+10≤1000000000):Calls Tryz.prog 77 #[.agg (stC s p).toArray] w fun r w'=>r=.returned (.tuple #[.string (bytesOf (rHd s)),.bool false])∧Below w.heap.size w w':=by
 have HD:rHd s=[119,97,105,116,32]++prE s.ea:=by
  unfold rHd
  rw[hk]
  first|rfl|(unfold prLine;rfl)
 rw[HD]at hl ⊢;obtain⟨XA,hXA⟩:=ex9 (bytesOf (prE s.ea));have eA:=hXA
 have HXA:Hid (RW w 37 [.agg (exC s.ea p.a).toArray,.int .i64 0] XA):=fun W hW=>by
  have h1:=zc3 hin.oa p.a 0 W om (by simp only[List.length_append]at hl;omega) (hin.a.keep (Keep.of_below hW F))
  unfold rxR at h1
  rw[hXA]
  simpa[par] using h1
 have zA:XA.size≤(prE s.ea).length:=by rw[eA,sz_b];exact lr
 have ZZA:Hid (XA.size≤1000000000):=by show _≤_;simp only[List.length_append]at hl;omega
 have y0:({ data:=#[119,97,105,116,32] } : ByteArray).size≤30:=by decide
 have HCT:Hid (({ data:=#[119,97,105,116,32] } : ByteArray).size+(XA:ByteArray).size≤9223372036854775807∧True):=by
  simp only[List.length_append]at hl;refine⟨?_,trivial⟩ <;> (try simp only[ByteArray.size_append]) <;> omega
 have HV:Hid ({ data:=#[119,97,105,116,32] }++XA=bytesOf ([119,97,105,116,32]++prE s.ea)):=by
  show _=_
  rw[eA,show({ data:=#[119,97,105,116,32] } : ByteArray)=bytesOf [119,97,105,116,32] from rfl];simp only[zac]
 obtain⟨V,hV⟩:=ex9 (bytesOf ([119,97,105,116,32]++prE s.ea));rw[←hV]at HV ⊢;obtain⟨C,hC⟩:=ex9 (stC s p);have HCL:Hid (C.length=26):=by show _=_;rw[hC];rfl
 have k0:C[0]? = some (.string k_wait):=by rw[hC,←hk];rfl
 obtain⟨CA,hCA⟩:=ex9 (exC s.ea p.a);have kA:∀j v,CA[j]? = some v→C[4+j]? = some v:=by rw[hC,hCA];exact stC_a s p
 have lA:Hid (CA.length=5):=by show _=_;rw[hCA];rfl
 rw[←hCA]at HXA;obtain⟨O,hO⟩:=ex9 (Obj.cells C.toArray 42 (0,0))
 have HLD:Hid (∀W,Below (w.heap.size+1) (w.alloc (.cells C.toArray 42)) W→W.rangeAt w.heap.size 4 CA∧Below w.heap.size w W):=fun W hW=>by
  have hB:Blk W w.heap.size 42 C:=(Blk.new w 42 C).below hW om;exact⟨(hB.mid 4 _ kA),((Below.refl w.heap.size w).alloc lr _).trans (hW.mono (Nat.le_succ _))⟩
 have c0:(w.alloc (.cells C.toArray 42)).cell? ⟨w.heap.size,0,none⟩=some (.string k_wait):=((Blk.new w 42 C).cell 0).trans k0;have hsz:(w.alloc (.cells C.toArray 42)).heap.size=w.heap.size+1:=by simp
 clear hin hl HD hV hO hXA eA zA y0 kA k0;rw[←hC];clear hk hC hCA
 go_enter Tryz.func77, Tryz.ntmps77
 have HT0:Hid (Below (w.heap.size+1) (w.alloc (.cells C.toArray 42)) (w.alloc (.cells C.toArray 42))):=Below.refl _ _;have ldA:(ldAt 39 (.pointer (some ⟨w.heap.size,4,none⟩))).run Tryz.prog (w.alloc (.cells C.toArray 42))=.ok (.agg CA.toArray) (w.alloc (.cells C.toArray 42)):=run_loadAt_mid (w.alloc (.cells C.toArray 42)) w.heap.size 4 39 CA _ (HLD.out _ HT0.out).1 Tryz.underlying39 rfl (by rw[lA.out];exact hdEx);have HV2:=HV;clear HV;have zzA:XA.size≤1000000000:=ZZA.out
 go_wp2_with (go_at_call 37;(refine(HXA.out _ (by exact(HLD.out _ HT0.out).2)).mono ?_);rintro r w2 ⟨rfl,hB2⟩;have H2:Hid (Below w.heap.size w w2):=(HLD.out _ HT0.out).2.trans (hB2.mono (HLD.out _ HT0.out).2.size);clear hB2)
 refine bodyPost_ret (results_tmp2 rfl _ _ _) rfl ?_;exact⟨by rw[←HV2.out];rfl,H2.out⟩
theorem zo8{F:Nat→Prop}(s:St)(p:StA)(hk:s.kind=k_block)(hin:LIn F w s p)(hl:(rHd s).length+10≤1000000000):Calls Tryz.prog 77 #[.agg (stC s p).toArray] w fun r w'=>r=.returned (.tuple #[.string (bytesOf (rHd s)),.bool false])∧Below w.heap.size w w':=by
 have HD:rHd s=[98,108,111,99,107,32]++tx s.name.name++[32,118,105,97,32]++prR s.routes:=by
  unfold rHd
  rw[hk]
  first|rfl|(unfold prLine;rfl)
 rw[HD]at hl ⊢;obtain⟨XN,hXN⟩:=ex9 (s.name.name);have eN:XN=bytesOf (tx s.name.name):=by rw[zbe];exact hXN
 obtain⟨XR,hXR⟩:=ex9 (bytesOf (prR s.routes));have eR:=hXR
 have HXR:Hid (RW w 102 [.slice p.r.1 s.routes.length p.r.2] XR):=fun W hW=>by
  rw[hXR];exact zef p.r.1 s.routes _ p.r.2 rfl hin.hr W (hin.r.keep (Keep.of_below hW F)) (by simp only[List.length_append]at hl;omega)
 have zN:XN.size≤(tx s.name.name).length:=by rw[eN,sz_b];exact lr
 have ZZN:Hid (XN.size≤1000000000):=by show _≤_;simp only[List.length_append]at hl;omega
 have zR:XR.size≤(prR s.routes).length:=by rw[eR,sz_b];exact lr
 have ZZR:Hid (XR.size≤1000000000):=by show _≤_;simp only[List.length_append]at hl;omega
 have y0:({ data:=#[98,108,111,99,107,32] } : ByteArray).size≤30:=by decide
 have y1:({ data:=#[32,118,105,97,32] } : ByteArray).size≤30:=by decide
 have HCT:Hid (({ data:=#[98,108,111,99,107,32] } : ByteArray).size+(XN:ByteArray).size≤9223372036854775807∧({ data:=#[98,108,111,99,107,32] }++XN:ByteArray).size+({ data:=#[32,118,105,97,32] } : ByteArray).size≤9223372036854775807∧({ data:=#[98,108,111,99,107,32] }++XN++{ data:=#[32,118,105,97,32] } : ByteArray).size+(XR:ByteArray).size≤9223372036854775807∧True):=by
  simp only[List.length_append]at hl;refine⟨?_,?_,?_,trivial⟩ <;> (try simp only[ByteArray.size_append]) <;> omega
 have HV:Hid ({ data:=#[98,108,111,99,107,32] }++XN++{ data:=#[32,118,105,97,32] }++XR=bytesOf ([98,108,111,99,107,32]++tx s.name.name++[32,118,105,97,32]++prR s.routes)):=by
  show _=_
  rw[eN,eR,show({ data:=#[98,108,111,99,107,32] } : ByteArray)=bytesOf [98,108,111,99,107,32] from rfl,show({ data:=#[32,118,105,97,32] } : ByteArray)=bytesOf [32,118,105,97,32] from rfl];simp only[zac]
 obtain⟨V,hV⟩:=ex9 (bytesOf ([98,108,111,99,107,32]++tx s.name.name++[32,118,105,97,32]++prR s.routes));rw[←hV]at HV ⊢;obtain⟨C,hC⟩:=ex9 (stC s p);have HCL:Hid (C.length=26):=by show _=_;rw[hC];rfl
 have k0:C[0]? = some (.string k_block):=by rw[hC,←hk];rfl
 have kN:C[2]? = some (.string XN):=by rw[hC,hXN];rfl
 have kR:C[19]? = some (.slice p.r.1 s.routes.length p.r.2):=by rw[hC];rfl
 obtain⟨O,hO⟩:=ex9 (Obj.cells C.toArray 42 (0,0))
 have HLD:Hid (∀W,Below (w.heap.size+1) (w.alloc (.cells C.toArray 42)) W→W.cell? ⟨w.heap.size,2,none⟩=some (.string XN)∧W.cell? ⟨w.heap.size,19,none⟩=some (.slice p.r.1 s.routes.length p.r.2)∧Below w.heap.size w W):=fun W hW=>by
  have hB:Blk W w.heap.size 42 C:=(Blk.new w 42 C).below hW om;exact⟨((hB.cell 2).trans kN),((hB.cell 19).trans kR),((Below.refl w.heap.size w).alloc lr _).trans (hW.mono (Nat.le_succ _))⟩
 have c0:(w.alloc (.cells C.toArray 42)).cell? ⟨w.heap.size,0,none⟩=some (.string k_block):=((Blk.new w 42 C).cell 0).trans k0;have hsz:(w.alloc (.cells C.toArray 42)).heap.size=w.heap.size+1:=by simp
 clear hin hl HD hV hO hXN eN zN hXR eR zR y0 y1 kN kR k0;rw[←hC];clear hk hC
 go_enter Tryz.func77, Tryz.ntmps77
 go_upto_region 11 with fail
 obtain⟨W0,hW0⟩:=ex9 (w.alloc (.cells C.toArray 42));rw[←hW0]at HLD hsz ⊢;clear hW0 c0;have hT:Below W0.heap.size W0 W0.drew:=Below.drew (Below.refl _ _);rw[←hsz]at HLD;refine kgo kr 9 (fun W=>Below W0.heap.size W0 W) hT (fun _ _ _ _ _ h=>h) ?_;refine kp 0 (.pointer (some ⟨w.heap.size,2,none⟩)) rfl kr (fun _=>kr) ?_;refine kp 1 (.pointer (some ⟨w.heap.size,2,none⟩)) rfl kr (fun _=>kr) ?_;refine kl 2 (.string XN) rfl kr (fun w' hw'=>zaq (t:=9) (x:=.tmp 55) rr kr agStr (HLD.out w' hw').1) ?_;refine kp 5 (.pointer (some ⟨w.heap.size,19,none⟩)) rfl kr (fun _=>kr) ?_;refine kl 6 (.slice p.r.1 s.routes.length p.r.2) rfl kr (fun w' hw'=>zaq (t:=40) (x:=.tmp 59) rr kr agRfs (HLD.out w' hw').2.1) ?_;refine kp 3 (.string ({ data:=#[98,108,111,99,107,32] }++XN)) rfl kr (fun _=>zay rr kr kr HCT.out.1) ?_;refine kp 4 (.string ({ data:=#[98,108,111,99,107,32] }++XN++{ data:=#[32,118,105,97,32] })) rfl kr (fun _=>zay rr kr kr HCT.out.2.1) ?_;intro q8 q9;clear q8 q9;refine AnyK.enter 7 (d:=some 61) (f:=102) (args:=#[.slice p.r.1 s.routes.length p.r.2]) rr kr kr ?_;refine(HXR.out _ (HLD.out _ hT).2.2).mono ?_;rintro r w1 ⟨rfl,hB1⟩;have hT1:Below W0.heap.size W0 w1:=hT.trans hB1;refine⟨_,rfl,fun _=>hT1,?_⟩;refine AnyK.pure 8 (v:=.string V) rfl kr (fun _ _ _ h=>h) rfl (fun _=>by rw[←HV.out];exact zay rr kr kr HCT.out.2.2.1) (fun _=>hT1) ?_;refine AnyK.val 9 (v:=.string V) rr kr rfl kr (fun h=>(by cases h)) ?_;refine AnyK.val 10 (v:=.bool false) rr kr rfl kr (fun h=>(by cases h)) ?_;have HB9:Hid (Below w.heap.size w _):=(HLD.out _ hT1).2.2;refine AnyK.done ?_ ?_
 · kernel_rfl
 clear HV HCT HLD hsz hT hT1 hB1 HXR;simp only[List.getElem_toArray,List.getElem_cons_zero,List.getElem_cons_succ,Act.put,List.setIfInBounds_toArray,List.set_cons_succ,List.set_cons_zero];go_wp2;refine bodyPost_ret (results_tmp2 rfl _ _ _) rfl ?_;exact⟨rfl,HB9.out⟩
theorem zo5{F:Nat→Prop}(s:St)(p:StA)(hk:s.kind=k_retry)(hin:LIn F w s p)(hl:(rHd s).length+10≤1000000000):Calls Tryz.prog 77 #[.agg (stC s p).toArray] w fun r w'=>r=.returned (.tuple #[.string (bytesOf (rHd s)),.bool false])∧Below w.heap.size w w':=by
 have HD:rHd s=[114,101,116,114,121,32]++prE s.ea++[32,101,118,101,114,121,32]++prE s.eb++[32,115,101,110,100,32]++prE s.ec++[32,118,105,97,32]++prR s.routes++nmd t_as s.tag:=by
  unfold rHd
  rw[hk]
  first|rfl|(unfold prLine;rfl)
 rw[HD]at hl ⊢;obtain⟨XA,hXA⟩:=ex9 (bytesOf (prE s.ea));have eA:=hXA
 have HXA:Hid (RW w 37 [.agg (exC s.ea p.a).toArray,.int .i64 0] XA):=fun W hW=>by
  have h1:=zc3 hin.oa p.a 0 W om (by simp only[List.length_append]at hl;omega) (hin.a.keep (Keep.of_below hW F))
  unfold rxR at h1
  rw[hXA]
  simpa[par] using h1
 obtain⟨XB,hXB⟩:=ex9 (bytesOf (prE s.eb));have eB:=hXB
 have HXB:Hid (RW w 37 [.agg (exC s.eb p.b).toArray,.int .i64 0] XB):=fun W hW=>by
  have h1:=zc3 hin.ob p.b 0 W om (by simp only[List.length_append]at hl;omega) (hin.b.keep (Keep.of_below hW F))
  unfold rxR at h1
  rw[hXB]
  simpa[par] using h1
 obtain⟨XC,hXC⟩:=ex9 (bytesOf (prE s.ec));have eC:=hXC
 have HXC:Hid (RW w 37 [.agg (exC s.ec p.c).toArray,.int .i64 0] XC):=fun W hW=>by
  have h1:=zc3 hin.oc p.c 0 W om (by simp only[List.length_append]at hl;omega) (hin.c.keep (Keep.of_below hW F))
  unfold rxR at h1
  rw[hXC]
  simpa[par] using h1
 obtain⟨XR,hXR⟩:=ex9 (bytesOf (prR s.routes));have eR:=hXR
 have HXR:Hid (RW w 102 [.slice p.r.1 s.routes.length p.r.2] XR):=fun W hW=>by
  rw[hXR];exact zef p.r.1 s.routes _ p.r.2 rfl hin.hr W (hin.r.keep (Keep.of_below hW F)) (by simp only[List.length_append]at hl;omega)
 obtain⟨XT,hXT⟩:=ex9 (bytesOf (nmd t_as s.tag));have eT:=hXT
 have HXT:Hid (∀W,Calls Tryz.prog 103 #[.string k_as,.agg (rfC s.tag).toArray] W fun r w'=>r=.returned (.string XT)∧Below W.heap.size W w'):=fun W=>by
  rw[hXT];refine zgf k_as (by decide) s.tag ?_ W;have h1:(nmd t_as s.tag).length≤1000000000:=by simp only[List.length_append]at hl;omega
  unfold nmd at h1
  split at h1
  · rename_i h2;rw[h2];decide
  · simp only[List.length_append]at h1;omega
 have zA:XA.size≤(prE s.ea).length:=by rw[eA,sz_b];exact lr
 have ZZA:Hid (XA.size≤1000000000):=by show _≤_;simp only[List.length_append]at hl;omega
 have zB:XB.size≤(prE s.eb).length:=by rw[eB,sz_b];exact lr
 have ZZB:Hid (XB.size≤1000000000):=by show _≤_;simp only[List.length_append]at hl;omega
 have zC:XC.size≤(prE s.ec).length:=by rw[eC,sz_b];exact lr
 have ZZC:Hid (XC.size≤1000000000):=by show _≤_;simp only[List.length_append]at hl;omega
 have zR:XR.size≤(prR s.routes).length:=by rw[eR,sz_b];exact lr
 have ZZR:Hid (XR.size≤1000000000):=by show _≤_;simp only[List.length_append]at hl;omega
 have zT:XT.size≤(nmd t_as s.tag).length:=by rw[eT,sz_b];exact lr
 have ZZT:Hid (XT.size≤1000000000):=by show _≤_;simp only[List.length_append]at hl;omega
 have y0:({ data:=#[114,101,116,114,121,32] } : ByteArray).size≤30:=by decide
 have y1:({ data:=#[32,101,118,101,114,121,32] } : ByteArray).size≤30:=by decide
 have y2:({ data:=#[32,115,101,110,100,32] } : ByteArray).size≤30:=by decide
 have y3:({ data:=#[32,118,105,97,32] } : ByteArray).size≤30:=by decide
 obtain⟨P0,hP0⟩:=ex9 ({ data:=#[114,101,116,114,121,32] }++XA);have sP0:P0.size=({ data:=#[114,101,116,114,121,32] } : ByteArray).size+(XA:ByteArray).size:=by rw[hP0,ByteArray.size_append]
 have HP0:=qh hP0.symm;obtain⟨P1,hP1⟩:=ex9 (P0++{ data:=#[32,101,118,101,114,121,32] });have sP1:P1.size=(P0:ByteArray).size+({ data:=#[32,101,118,101,114,121,32] } : ByteArray).size:=by rw[hP1,ByteArray.size_append]
 have HP1:=qh hP1.symm;obtain⟨P2,hP2⟩:=ex9 (P1++XB);have sP2:P2.size=(P1:ByteArray).size+(XB:ByteArray).size:=by rw[hP2,ByteArray.size_append]
 have HP2:=qh hP2.symm;obtain⟨P3,hP3⟩:=ex9 (P2++{ data:=#[32,115,101,110,100,32] });have sP3:P3.size=(P2:ByteArray).size+({ data:=#[32,115,101,110,100,32] } : ByteArray).size:=by rw[hP3,ByteArray.size_append]
 have HP3:=qh hP3.symm;obtain⟨P4,hP4⟩:=ex9 (P3++XC);have sP4:P4.size=(P3:ByteArray).size+(XC:ByteArray).size:=by rw[hP4,ByteArray.size_append]
 have HP4:=qh hP4.symm;obtain⟨P5,hP5⟩:=ex9 (P4++{ data:=#[32,118,105,97,32] });have sP5:P5.size=(P4:ByteArray).size+({ data:=#[32,118,105,97,32] } : ByteArray).size:=by rw[hP5,ByteArray.size_append]
 have HP5:=qh hP5.symm;obtain⟨P6,hP6⟩:=ex9 (P5++XR);have sP6:P6.size=(P5:ByteArray).size+(XR:ByteArray).size:=by rw[hP6,ByteArray.size_append]
 have HP6:=qh hP6.symm
 have HCT:Hid (({ data:=#[114,101,116,114,121,32] } : ByteArray).size+(XA:ByteArray).size≤9223372036854775807∧(P0:ByteArray).size+({ data:=#[32,101,118,101,114,121,32] } : ByteArray).size≤9223372036854775807∧(P1:ByteArray).size+(XB:ByteArray).size≤9223372036854775807∧(P2:ByteArray).size+({ data:=#[32,115,101,110,100,32] } : ByteArray).size≤9223372036854775807∧(P3:ByteArray).size+(XC:ByteArray).size≤9223372036854775807∧(P4:ByteArray).size+({ data:=#[32,118,105,97,32] } : ByteArray).size≤9223372036854775807∧(P5:ByteArray).size+(XR:ByteArray).size≤9223372036854775807∧(P6:ByteArray).size+(XT:ByteArray).size≤9223372036854775807∧True):=by
  simp only[List.length_append]at hl;refine⟨?_,?_,?_,?_,?_,?_,?_,?_,trivial⟩ <;> omega
 have HV:Hid ({ data:=#[114,101,116,114,121,32] }++XA++{ data:=#[32,101,118,101,114,121,32] }++XB++{ data:=#[32,115,101,110,100,32] }++XC++{ data:=#[32,118,105,97,32] }++XR++XT=bytesOf ([114,101,116,114,121,32]++prE s.ea++[32,101,118,101,114,121,32]++prE s.eb++[32,115,101,110,100,32]++prE s.ec++[32,118,105,97,32]++prR s.routes++nmd t_as s.tag)):=by
  show _=_
  rw[eA,eB,eC,eR,eT,show({ data:=#[114,101,116,114,121,32] } : ByteArray)=bytesOf [114,101,116,114,121,32] from rfl,show({ data:=#[32,101,118,101,114,121,32] } : ByteArray)=bytesOf [32,101,118,101,114,121,32] from rfl,show({ data:=#[32,115,101,110,100,32] } : ByteArray)=bytesOf [32,115,101,110,100,32] from rfl,show({ data:=#[32,118,105,97,32] } : ByteArray)=bytesOf [32,118,105,97,32] from rfl];simp only[zac]
 obtain⟨V,hV⟩:=ex9 (bytesOf ([114,101,116,114,121,32]++prE s.ea++[32,101,118,101,114,121,32]++prE s.eb++[32,115,101,110,100,32]++prE s.ec++[32,118,105,97,32]++prR s.routes++nmd t_as s.tag));rw[←hV]at HV ⊢;have HV9:=HV;clear HV
 have HV:Hid (P6++XT=V):=by
  show _=_
  rw[←HV9.out,hP6,hP5,hP4,hP3,hP2,hP1,hP0]
 clear HV9 hP0 sP0 hP1 sP1 hP2 sP2 hP3 sP3 hP4 sP4 hP5 sP5 hP6 sP6;obtain⟨C,hC⟩:=ex9 (stC s p);have HCL:Hid (C.length=26):=by show _=_;rw[hC];rfl
 have k0:C[0]? = some (.string k_retry):=by rw[hC,←hk];rfl
 obtain⟨CA,hCA⟩:=ex9 (exC s.ea p.a);have kA:∀j v,CA[j]? = some v→C[4+j]? = some v:=by rw[hC,hCA];exact stC_a s p
 have lA:Hid (CA.length=5):=by show _=_;rw[hCA];rfl
 rw[←hCA]at HXA;obtain⟨CB,hCB⟩:=ex9 (exC s.eb p.b);have kB:∀j v,CB[j]? = some v→C[9+j]? = some v:=by rw[hC,hCB];exact stC_b s p
 have lB:Hid (CB.length=5):=by show _=_;rw[hCB];rfl
 rw[←hCB]at HXB;obtain⟨CC,hCC⟩:=ex9 (exC s.ec p.c);have kC:∀j v,CC[j]? = some v→C[14+j]? = some v:=by rw[hC,hCC];exact stC_c s p
 have lC:Hid (CC.length=5):=by show _=_;rw[hCC];rfl
 rw[←hCC]at HXC;have kR:C[19]? = some (.slice p.r.1 s.routes.length p.r.2):=by rw[hC];rfl
 have kT:∀j v,(rfC s.tag)[j]? = some v→C[22+j]? = some v:=by rw[hC];exact stC_t s p
 obtain⟨O,hO⟩:=ex9 (Obj.cells C.toArray 42 (0,0))
 have HLD:Hid (∀W,Below (w.heap.size+1) (w.alloc (.cells C.toArray 42)) W→W.rangeAt w.heap.size 4 CA∧W.rangeAt w.heap.size 9 CB∧W.rangeAt w.heap.size 14 CC∧W.cell? ⟨w.heap.size,19,none⟩=some (.slice p.r.1 s.routes.length p.r.2)∧W.rangeAt w.heap.size 22 (rfC s.tag)∧Below w.heap.size w W):=fun W hW=>by
  have hB:Blk W w.heap.size 42 C:=(Blk.new w 42 C).below hW om;exact⟨(hB.mid 4 _ kA),(hB.mid 9 _ kB),(hB.mid 14 _ kC),((hB.cell 19).trans kR),(hB.mid 22 _ kT),((Below.refl w.heap.size w).alloc lr _).trans (hW.mono (Nat.le_succ _))⟩
 have c0:(w.alloc (.cells C.toArray 42)).cell? ⟨w.heap.size,0,none⟩=some (.string k_retry):=((Blk.new w 42 C).cell 0).trans k0;have hsz:(w.alloc (.cells C.toArray 42)).heap.size=w.heap.size+1:=by simp
 clear hin hl HD hV hO hXA eA zA hXB eB zB hXC eC zC hXR eR zR hXT eT zT y0 y1 y2 y3 kA kB kC kR kT k0;rw[←hC];clear hk hC hCA hCB hCC
 go_enter Tryz.func77, Tryz.ntmps77
 go_upto_region 13 with fail
 obtain⟨W0,hW0⟩:=ex9 (w.alloc (.cells C.toArray 42));rw[←hW0]at HLD hsz ⊢;clear hW0 c0;have hT:Below W0.heap.size W0 W0.drew:=Below.drew (Below.refl _ _);rw[←hsz]at HLD;refine kgo kr 23 (fun W=>Below W0.heap.size W0 W) hT (fun _ _ _ _ _ h=>h) ?_;refine kp 0 (.pointer (some ⟨w.heap.size,4,none⟩)) rfl kr (fun _=>kr) ?_;refine kl 1 (.agg CA.toArray) rfl kr (fun w' hw'=>zak rfl kr (run_loadAt_mid w' w.heap.size 4 39 CA _ (HLD.out w' hw').1 Tryz.underlying39 rfl (by rw[lA.out];exact hdEx))) ?_;refine kp 5 (.pointer (some ⟨w.heap.size,9,none⟩)) rfl kr (fun _=>kr) ?_;refine kl 6 (.agg CB.toArray) rfl kr (fun w' hw'=>zak rfl kr (run_loadAt_mid w' w.heap.size 9 39 CB _ (HLD.out w' hw').2.1 Tryz.underlying39 rfl (by rw[lB.out];exact hdEx))) ?_;refine kp 10 (.pointer (some ⟨w.heap.size,14,none⟩)) rfl kr (fun _=>kr) ?_;refine kl 11 (.agg CC.toArray) rfl kr (fun w' hw'=>zak rfl kr (run_loadAt_mid w' w.heap.size 14 39 CC _ (HLD.out w' hw').2.2.1 Tryz.underlying39 rfl (by rw[lC.out];exact hdEx))) ?_;refine kp 15 (.pointer (some ⟨w.heap.size,19,none⟩)) rfl kr (fun _=>kr) ?_;refine kl 16 (.slice p.r.1 s.routes.length p.r.2) rfl kr (fun w' hw'=>zaq (t:=40) (x:=.tmp 80) rr kr agRfs (HLD.out w' hw').2.2.2.1) ?_;refine kp 19 (.pointer (some ⟨w.heap.size,22,none⟩)) rfl kr (fun _=>kr) ?_;refine kl 20 (.agg (rfC s.tag).toArray) rfl kr (fun w' hw'=>zak rfl kr (run_loadAt_mid w' w.heap.size 22 36 (rfC s.tag) _ (HLD.out w' hw').2.2.2.2.1 Tryz.underlying36 rfl hdRf)) ?_;intro q8 q9;clear q8 q9;refine AnyK.enter 2 (d:=some 67) (f:=37) (args:=#[.agg CA.toArray,.int .i64 0]) rr kr kr ?_;refine(HXA.out _ (HLD.out _ hT).2.2.2.2.2).mono ?_;rintro r w1 ⟨rfl,hB1⟩;have hT1:Below W0.heap.size W0 w1:=hT.trans hB1;refine⟨_,rfl,fun _=>hT1,?_⟩;refine AnyK.pure 3 (v:=.string P0) rfl kr (fun _ _ _ h=>h) rfl (fun _=>by rw[←HP0.out];exact zay rr kr kr HCT.out.1) (fun _=>hT1) ?_;refine AnyK.pure 4 (v:=.string P1) rfl kr (fun _ _ _ h=>h) rfl (fun _=>by rw[←HP1.out];exact zay rr kr kr HCT.out.2.1) (fun _=>hT1) ?_;refine AnyK.enter 7 (d:=some 72) (f:=37) (args:=#[.agg CB.toArray,.int .i64 0]) rr kr kr ?_;refine(HXB.out _ (HLD.out _ hT1).2.2.2.2.2).mono ?_;rintro r w2 ⟨rfl,hB2⟩;have hT2:Below W0.heap.size W0 w2:=hT1.trans (hB2.mono hT1.size);refine⟨_,rfl,fun _=>hT2,?_⟩;refine AnyK.pure 8 (v:=.string P2) rfl kr (fun _ _ _ h=>h) rfl (fun _=>by rw[←HP2.out];exact zay rr kr kr HCT.out.2.2.1) (fun _=>hT2) ?_;refine AnyK.pure 9 (v:=.string P3) rfl kr (fun _ _ _ h=>h) rfl (fun _=>by rw[←HP3.out];exact zay rr kr kr HCT.out.2.2.2.1) (fun _=>hT2) ?_;refine AnyK.enter 12 (d:=some 77) (f:=37) (args:=#[.agg CC.toArray,.int .i64 0]) rr kr kr ?_;refine(HXC.out _ (HLD.out _ hT2).2.2.2.2.2).mono ?_;rintro r w3 ⟨rfl,hB3⟩;have hT3:Below W0.heap.size W0 w3:=hT2.trans (hB3.mono hT2.size);refine⟨_,rfl,fun _=>hT3,?_⟩;refine AnyK.pure 13 (v:=.string P4) rfl kr (fun _ _ _ h=>h) rfl (fun _=>by rw[←HP4.out];exact zay rr kr kr HCT.out.2.2.2.2.1) (fun _=>hT3) ?_;refine AnyK.pure 14 (v:=.string P5) rfl kr (fun _ _ _ h=>h) rfl (fun _=>by rw[←HP5.out];exact zay rr kr kr HCT.out.2.2.2.2.2.1) (fun _=>hT3) ?_;refine AnyK.enter 17 (d:=some 82) (f:=102) (args:=#[.slice p.r.1 s.routes.length p.r.2]) rr kr kr ?_;refine(HXR.out _ (HLD.out _ hT3).2.2.2.2.2).mono ?_;rintro r w4 ⟨rfl,hB4⟩;have hT4:Below W0.heap.size W0 w4:=hT3.trans (hB4.mono hT3.size);refine⟨_,rfl,fun _=>hT4,?_⟩;refine AnyK.pure 18 (v:=.string P6) rfl kr (fun _ _ _ h=>h) rfl (fun _=>by rw[←HP6.out];exact zay rr kr kr HCT.out.2.2.2.2.2.2.1) (fun _=>hT4) ?_;refine AnyK.enter 21 (d:=some 86) (f:=103) (args:=#[.string k_as,.agg (rfC s.tag).toArray]) rr kr kr ?_;refine(HXT.out _).mono ?_;rintro r w5 ⟨rfl,hB5⟩;have hT5:Below W0.heap.size W0 w5:=hT4.trans (hB5.mono hT4.size);refine⟨_,rfl,fun _=>hT5,?_⟩;refine AnyK.pure 22 (v:=.string V) rfl kr (fun _ _ _ h=>h) rfl (fun _=>by rw[←HV.out];exact zay rr kr kr HCT.out.2.2.2.2.2.2.2.1) (fun _=>hT5) ?_;refine AnyK.val 23 (v:=.string V) rr kr rfl kr (fun h=>(by cases h)) ?_;refine AnyK.val 24 (v:=.bool false) rr kr rfl kr (fun h=>(by cases h)) ?_;have HB9:Hid (Below w.heap.size w _):=(HLD.out _ hT5).2.2.2.2.2;refine AnyK.done ?_ ?_
 · kernel_rfl
 clear HV HCT HLD hsz hT hT1 hB1 hT2 hB2 hT3 hB3 hT4 hB4 hT5 hB5 HXA HXB HXC HXR HXT;simp only[List.getElem_toArray,List.getElem_cons_zero,List.getElem_cons_succ,Act.put,List.setIfInBounds_toArray,List.set_cons_succ,List.set_cons_zero];go_wp2;refine bodyPost_ret (results_tmp2 rfl _ _ _) rfl ?_;exact⟨rfl,HB9.out⟩
theorem zo6{F:Nat→Prop}(s:St)(p:StA)(hk:s.kind=k_every)(hin:LIn F w s p)(hl:(rHd s).length+10≤1000000000):Calls Tryz.prog 77 #[.agg (stC s p).toArray] w fun r w'=>r=.returned (.tuple #[.string (bytesOf (rHd s)),.bool false])∧Below w.heap.size w w':=by
 have HD:rHd s=[101,118,101,114,121,32]++prE s.ea++[32,116,105,109,101,115,32]++prE s.eb++[32,99,111,118,101,114,32]++prR s.routes:=by
  unfold rHd
  rw[hk]
  first|rfl|(unfold prLine;rfl)
 rw[HD]at hl ⊢;obtain⟨XA,hXA⟩:=ex9 (bytesOf (prE s.ea));have eA:=hXA
 have HXA:Hid (RW w 37 [.agg (exC s.ea p.a).toArray,.int .i64 0] XA):=fun W hW=>by
  have h1:=zc3 hin.oa p.a 0 W om (by simp only[List.length_append]at hl;omega) (hin.a.keep (Keep.of_below hW F))
  unfold rxR at h1
  rw[hXA]
  simpa[par] using h1
 obtain⟨XB,hXB⟩:=ex9 (bytesOf (prE s.eb));have eB:=hXB
 have HXB:Hid (RW w 37 [.agg (exC s.eb p.b).toArray,.int .i64 0] XB):=fun W hW=>by
  have h1:=zc3 hin.ob p.b 0 W om (by simp only[List.length_append]at hl;omega) (hin.b.keep (Keep.of_below hW F))
  unfold rxR at h1
  rw[hXB]
  simpa[par] using h1
 obtain⟨XR,hXR⟩:=ex9 (bytesOf (prR s.routes));have eR:=hXR
 have HXR:Hid (RW w 102 [.slice p.r.1 s.routes.length p.r.2] XR):=fun W hW=>by
  rw[hXR];exact zef p.r.1 s.routes _ p.r.2 rfl hin.hr W (hin.r.keep (Keep.of_below hW F)) (by simp only[List.length_append]at hl;omega)
 have zA:XA.size≤(prE s.ea).length:=by rw[eA,sz_b];exact lr
 have ZZA:Hid (XA.size≤1000000000):=by show _≤_;simp only[List.length_append]at hl;omega
 have zB:XB.size≤(prE s.eb).length:=by rw[eB,sz_b];exact lr
 have ZZB:Hid (XB.size≤1000000000):=by show _≤_;simp only[List.length_append]at hl;omega
 have zR:XR.size≤(prR s.routes).length:=by rw[eR,sz_b];exact lr
 have ZZR:Hid (XR.size≤1000000000):=by show _≤_;simp only[List.length_append]at hl;omega
 have y0:({ data:=#[101,118,101,114,121,32] } : ByteArray).size≤30:=by decide
 have y1:({ data:=#[32,116,105,109,101,115,32] } : ByteArray).size≤30:=by decide
 have y2:({ data:=#[32,99,111,118,101,114,32] } : ByteArray).size≤30:=by decide
 have HCT:Hid (({ data:=#[101,118,101,114,121,32] } : ByteArray).size+(XA:ByteArray).size≤9223372036854775807∧({ data:=#[101,118,101,114,121,32] }++XA:ByteArray).size+({ data:=#[32,116,105,109,101,115,32] } : ByteArray).size≤9223372036854775807∧({ data:=#[101,118,101,114,121,32] }++XA++{ data:=#[32,116,105,109,101,115,32] } : ByteArray).size+(XB:ByteArray).size≤9223372036854775807∧({ data:=#[101,118,101,114,121,32] }++XA++{ data:=#[32,116,105,109,101,115,32] }++XB:ByteArray).size+({ data:=#[32,99,111,118,101,114,32] } : ByteArray).size≤9223372036854775807∧({ data:=#[101,118,101,114,121,32] }++XA++{ data:=#[32,116,105,109,101,115,32] }++XB++{ data:=#[32,99,111,118,101,114,32] } : ByteArray).size+(XR:ByteArray).size≤9223372036854775807∧True):=by
  simp only[List.length_append]at hl;refine⟨?_,?_,?_,?_,?_,trivial⟩ <;> (try simp only[ByteArray.size_append]) <;> omega
 have HV:Hid ({ data:=#[101,118,101,114,121,32] }++XA++{ data:=#[32,116,105,109,101,115,32] }++XB++{ data:=#[32,99,111,118,101,114,32] }++XR=bytesOf ([101,118,101,114,121,32]++prE s.ea++[32,116,105,109,101,115,32]++prE s.eb++[32,99,111,118,101,114,32]++prR s.routes)):=by
  show _=_
  rw[eA,eB,eR,show({ data:=#[101,118,101,114,121,32] } : ByteArray)=bytesOf [101,118,101,114,121,32] from rfl,show({ data:=#[32,116,105,109,101,115,32] } : ByteArray)=bytesOf [32,116,105,109,101,115,32] from rfl,show({ data:=#[32,99,111,118,101,114,32] } : ByteArray)=bytesOf [32,99,111,118,101,114,32] from rfl];simp only[zac]
 obtain⟨V,hV⟩:=ex9 (bytesOf ([101,118,101,114,121,32]++prE s.ea++[32,116,105,109,101,115,32]++prE s.eb++[32,99,111,118,101,114,32]++prR s.routes));rw[←hV]at HV ⊢;obtain⟨C,hC⟩:=ex9 (stC s p);have HCL:Hid (C.length=26):=by show _=_;rw[hC];rfl
 have k0:C[0]? = some (.string k_every):=by rw[hC,←hk];rfl
 obtain⟨CA,hCA⟩:=ex9 (exC s.ea p.a);have kA:∀j v,CA[j]? = some v→C[4+j]? = some v:=by rw[hC,hCA];exact stC_a s p
 have lA:Hid (CA.length=5):=by show _=_;rw[hCA];rfl
 rw[←hCA]at HXA;obtain⟨CB,hCB⟩:=ex9 (exC s.eb p.b);have kB:∀j v,CB[j]? = some v→C[9+j]? = some v:=by rw[hC,hCB];exact stC_b s p
 have lB:Hid (CB.length=5):=by show _=_;rw[hCB];rfl
 rw[←hCB]at HXB;have kR:C[19]? = some (.slice p.r.1 s.routes.length p.r.2):=by rw[hC];rfl
 obtain⟨O,hO⟩:=ex9 (Obj.cells C.toArray 42 (0,0))
 have HLD:Hid (∀W,Below (w.heap.size+1) (w.alloc (.cells C.toArray 42)) W→W.rangeAt w.heap.size 4 CA∧W.rangeAt w.heap.size 9 CB∧W.cell? ⟨w.heap.size,19,none⟩=some (.slice p.r.1 s.routes.length p.r.2)∧Below w.heap.size w W):=fun W hW=>by
  have hB:Blk W w.heap.size 42 C:=(Blk.new w 42 C).below hW om;exact⟨(hB.mid 4 _ kA),(hB.mid 9 _ kB),((hB.cell 19).trans kR),((Below.refl w.heap.size w).alloc lr _).trans (hW.mono (Nat.le_succ _))⟩
 have c0:(w.alloc (.cells C.toArray 42)).cell? ⟨w.heap.size,0,none⟩=some (.string k_every):=((Blk.new w 42 C).cell 0).trans k0;have hsz:(w.alloc (.cells C.toArray 42)).heap.size=w.heap.size+1:=by simp
 clear hin hl HD hV hO hXA eA zA hXB eB zB hXR eR zR y0 y1 y2 kA kB kR k0;rw[←hC];clear hk hC hCA hCB
 go_enter Tryz.func77, Tryz.ntmps77
 go_upto_region 15 with fail
 obtain⟨W0,hW0⟩:=ex9 (w.alloc (.cells C.toArray 42));rw[←hW0]at HLD hsz ⊢;clear hW0 c0;have hT:Below W0.heap.size W0 W0.drew:=Below.drew (Below.refl _ _);rw[←hsz]at HLD;refine kgo kr 14 (fun W=>Below W0.heap.size W0 W) hT (fun _ _ _ _ _ h=>h) ?_;refine kp 0 (.pointer (some ⟨w.heap.size,4,none⟩)) rfl kr (fun _=>kr) ?_;refine kl 1 (.agg CA.toArray) rfl kr (fun w' hw'=>zak rfl kr (run_loadAt_mid w' w.heap.size 4 39 CA _ (HLD.out w' hw').1 Tryz.underlying39 rfl (by rw[lA.out];exact hdEx))) ?_;refine kp 5 (.pointer (some ⟨w.heap.size,9,none⟩)) rfl kr (fun _=>kr) ?_;refine kl 6 (.agg CB.toArray) rfl kr (fun w' hw'=>zak rfl kr (run_loadAt_mid w' w.heap.size 9 39 CB _ (HLD.out w' hw').2.1 Tryz.underlying39 rfl (by rw[lB.out];exact hdEx))) ?_;refine kp 10 (.pointer (some ⟨w.heap.size,19,none⟩)) rfl kr (fun _=>kr) ?_;refine kl 11 (.slice p.r.1 s.routes.length p.r.2) rfl kr (fun w' hw'=>zaq (t:=40) (x:=.tmp 100) rr kr agRfs (HLD.out w' hw').2.2.1) ?_;intro q8 q9;clear q8 q9;refine AnyK.enter 2 (d:=some 92) (f:=37) (args:=#[.agg CA.toArray,.int .i64 0]) rr kr kr ?_;refine(HXA.out _ (HLD.out _ hT).2.2.2).mono ?_;rintro r w1 ⟨rfl,hB1⟩;have hT1:Below W0.heap.size W0 w1:=hT.trans hB1;refine⟨_,rfl,fun _=>hT1,?_⟩;refine AnyK.pure 3 (v:=.string ({ data:=#[101,118,101,114,121,32] }++XA)) rfl kr (fun _ _ _ h=>h) rfl (fun _=>zay rr kr kr HCT.out.1) (fun _=>hT1) ?_;refine AnyK.pure 4 (v:=.string ({ data:=#[101,118,101,114,121,32] }++XA++{ data:=#[32,116,105,109,101,115,32] })) rfl kr (fun _ _ _ h=>h) rfl (fun _=>zay rr kr kr HCT.out.2.1) (fun _=>hT1) ?_;refine AnyK.enter 7 (d:=some 97) (f:=37) (args:=#[.agg CB.toArray,.int .i64 0]) rr kr kr ?_;refine(HXB.out _ (HLD.out _ hT1).2.2.2).mono ?_;rintro r w2 ⟨rfl,hB2⟩;have hT2:Below W0.heap.size W0 w2:=hT1.trans (hB2.mono hT1.size);refine⟨_,rfl,fun _=>hT2,?_⟩;refine AnyK.pure 8 (v:=.string ({ data:=#[101,118,101,114,121,32] }++XA++{ data:=#[32,116,105,109,101,115,32] }++XB)) rfl kr (fun _ _ _ h=>h) rfl (fun _=>zay rr kr kr HCT.out.2.2.1) (fun _=>hT2) ?_;refine AnyK.pure 9 (v:=.string ({ data:=#[101,118,101,114,121,32] }++XA++{ data:=#[32,116,105,109,101,115,32] }++XB++{ data:=#[32,99,111,118,101,114,32] })) rfl kr (fun _ _ _ h=>h) rfl (fun _=>zay rr kr kr HCT.out.2.2.2.1) (fun _=>hT2) ?_;refine AnyK.enter 12 (d:=some 102) (f:=102) (args:=#[.slice p.r.1 s.routes.length p.r.2]) rr kr kr ?_;refine(HXR.out _ (HLD.out _ hT2).2.2.2).mono ?_;rintro r w3 ⟨rfl,hB3⟩;have hT3:Below W0.heap.size W0 w3:=hT2.trans (hB3.mono hT2.size);refine⟨_,rfl,fun _=>hT3,?_⟩;refine AnyK.pure 13 (v:=.string V) rfl kr (fun _ _ _ h=>h) rfl (fun _=>by rw[←HV.out];exact zay rr kr kr HCT.out.2.2.2.2.1) (fun _=>hT3) ?_;refine AnyK.val 14 (v:=.string V) rr kr rfl kr (fun h=>(by cases h)) ?_;refine AnyK.val 15 (v:=.bool false) rr kr rfl kr (fun h=>(by cases h)) ?_;have HB9:Hid (Below w.heap.size w _):=(HLD.out _ hT3).2.2.2;refine AnyK.done ?_ ?_
 · kernel_rfl
 clear HV HCT HLD hsz hT hT1 hB1 hT2 hB2 hT3 hB3 HXA HXB HXR;simp only[List.getElem_toArray,List.getElem_cons_zero,List.getElem_cons_succ,Act.put,List.setIfInBounds_toArray,List.set_cons_succ,List.set_cons_zero];go_wp2;refine bodyPost_ret (results_tmp2 rfl _ _ _) rfl ?_;exact⟨rfl,HB9.out⟩
theorem zo9{F:Nat→Prop}(s:St)(p:StA)(hk:s.kind=k_after)(hin:LIn F w s p)(hl:(rHd s).length+10≤1000000000):Calls Tryz.prog 77 #[.agg (stC s p).toArray] w fun r w'=>r=.returned (.tuple #[.string (bytesOf (rHd s)),.bool true])∧Below w.heap.size w w':=by
 have HD:rHd s=[97,102,116,101,114,32]++prE s.ea:=by
  unfold rHd
  rw[hk]
  first|rfl|(unfold prLine;rfl)
 rw[HD]at hl ⊢;obtain⟨XA,hXA⟩:=ex9 (bytesOf (prE s.ea));have eA:=hXA
 have HXA:Hid (RW w 37 [.agg (exC s.ea p.a).toArray,.int .i64 0] XA):=fun W hW=>by
  have h1:=zc3 hin.oa p.a 0 W om (by simp only[List.length_append]at hl;omega) (hin.a.keep (Keep.of_below hW F))
  unfold rxR at h1
  rw[hXA]
  simpa[par] using h1
 have zA:XA.size≤(prE s.ea).length:=by rw[eA,sz_b];exact lr
 have ZZA:Hid (XA.size≤1000000000):=by show _≤_;simp only[List.length_append]at hl;omega
 have y0:({ data:=#[97,102,116,101,114,32] } : ByteArray).size≤30:=by decide
 have HCT:Hid (({ data:=#[97,102,116,101,114,32] } : ByteArray).size+(XA:ByteArray).size≤9223372036854775807∧True):=by
  simp only[List.length_append]at hl;refine⟨?_,trivial⟩ <;> (try simp only[ByteArray.size_append]) <;> omega
 have HV:Hid ({ data:=#[97,102,116,101,114,32] }++XA=bytesOf ([97,102,116,101,114,32]++prE s.ea)):=by
  show _=_
  rw[eA,show({ data:=#[97,102,116,101,114,32] } : ByteArray)=bytesOf [97,102,116,101,114,32] from rfl];simp only[zac]
 obtain⟨V,hV⟩:=ex9 (bytesOf ([97,102,116,101,114,32]++prE s.ea));rw[←hV]at HV ⊢;obtain⟨C,hC⟩:=ex9 (stC s p);have HCL:Hid (C.length=26):=by show _=_;rw[hC];rfl
 have k0:C[0]? = some (.string k_after):=by rw[hC,←hk];rfl
 obtain⟨CA,hCA⟩:=ex9 (exC s.ea p.a);have kA:∀j v,CA[j]? = some v→C[4+j]? = some v:=by rw[hC,hCA];exact stC_a s p
 have lA:Hid (CA.length=5):=by show _=_;rw[hCA];rfl
 rw[←hCA]at HXA;obtain⟨O,hO⟩:=ex9 (Obj.cells C.toArray 42 (0,0))
 have HLD:Hid (∀W,Below (w.heap.size+1) (w.alloc (.cells C.toArray 42)) W→W.rangeAt w.heap.size 4 CA∧Below w.heap.size w W):=fun W hW=>by
  have hB:Blk W w.heap.size 42 C:=(Blk.new w 42 C).below hW om;exact⟨(hB.mid 4 _ kA),((Below.refl w.heap.size w).alloc lr _).trans (hW.mono (Nat.le_succ _))⟩
 have c0:(w.alloc (.cells C.toArray 42)).cell? ⟨w.heap.size,0,none⟩=some (.string k_after):=((Blk.new w 42 C).cell 0).trans k0;have hsz:(w.alloc (.cells C.toArray 42)).heap.size=w.heap.size+1:=by simp
 clear hin hl HD hV hO hXA eA zA y0 kA k0;rw[←hC];clear hk hC hCA
 go_enter Tryz.func77, Tryz.ntmps77
 have HT0:Hid (Below (w.heap.size+1) (w.alloc (.cells C.toArray 42)) (w.alloc (.cells C.toArray 42))):=Below.refl _ _;have ldA:(ldAt 39 (.pointer (some ⟨w.heap.size,4,none⟩))).run Tryz.prog (w.alloc (.cells C.toArray 42))=.ok (.agg CA.toArray) (w.alloc (.cells C.toArray 42)):=run_loadAt_mid (w.alloc (.cells C.toArray 42)) w.heap.size 4 39 CA _ (HLD.out _ HT0.out).1 Tryz.underlying39 rfl (by rw[lA.out];exact hdEx);have HV2:=HV;clear HV;have zzA:XA.size≤1000000000:=ZZA.out
 go_wp2_with (go_at_call 37;(refine(HXA.out _ (by exact(HLD.out _ HT0.out).2)).mono ?_);rintro r w2 ⟨rfl,hB2⟩;have H2:Hid (Below w.heap.size w w2):=(HLD.out _ HT0.out).2.trans (hB2.mono (HLD.out _ HT0.out).2.size);clear hB2)
 refine bodyPost_ret (results_tmp2 rfl _ _ _) rfl ?_;exact⟨by rw[←HV2.out];rfl,H2.out⟩
theorem zmw{F:Nat→Prop}(s:St)(p:StA)(hk:s.kind=k_repeat)(hin:LIn F w s p)(hl:(rHd s).length+10≤1000000000):Calls Tryz.prog 77 #[.agg (stC s p).toArray] w fun r w'=>r=.returned (.tuple #[.string (bytesOf (rHd s)),.bool true])∧Below w.heap.size w w':=by
 have HD:rHd s=[114,101,112,101,97,116,32]++tx s.name.name++[32]++prE s.ea:=by
  unfold rHd
  rw[hk]
  first|rfl|(unfold prLine;rfl)
 rw[HD]at hl ⊢;obtain⟨XN,hXN⟩:=ex9 (s.name.name);have eN:XN=bytesOf (tx s.name.name):=by rw[zbe];exact hXN
 obtain⟨XA,hXA⟩:=ex9 (bytesOf (prE s.ea));have eA:=hXA
 have HXA:Hid (RW w 37 [.agg (exC s.ea p.a).toArray,.int .i64 0] XA):=fun W hW=>by
  have h1:=zc3 hin.oa p.a 0 W om (by simp only[List.length_append]at hl;omega) (hin.a.keep (Keep.of_below hW F))
  unfold rxR at h1
  rw[hXA]
  simpa[par] using h1
 have zN:XN.size≤(tx s.name.name).length:=by rw[eN,sz_b];exact lr
 have ZZN:Hid (XN.size≤1000000000):=by show _≤_;simp only[List.length_append]at hl;omega
 have zA:XA.size≤(prE s.ea).length:=by rw[eA,sz_b];exact lr
 have ZZA:Hid (XA.size≤1000000000):=by show _≤_;simp only[List.length_append]at hl;omega
 have y0:({ data:=#[114,101,112,101,97,116,32] } : ByteArray).size≤30:=by decide
 have y1:({ data:=#[32] } : ByteArray).size≤30:=by decide
 have HCT:Hid (({ data:=#[114,101,112,101,97,116,32] } : ByteArray).size+(XN:ByteArray).size≤9223372036854775807∧({ data:=#[114,101,112,101,97,116,32] }++XN:ByteArray).size+({ data:=#[32] } : ByteArray).size≤9223372036854775807∧({ data:=#[114,101,112,101,97,116,32] }++XN++{ data:=#[32] } : ByteArray).size+(XA:ByteArray).size≤9223372036854775807∧True):=by
  simp only[List.length_append]at hl;refine⟨?_,?_,?_,trivial⟩ <;> (try simp only[ByteArray.size_append]) <;> omega
 have HV:Hid ({ data:=#[114,101,112,101,97,116,32] }++XN++{ data:=#[32] }++XA=bytesOf ([114,101,112,101,97,116,32]++tx s.name.name++[32]++prE s.ea)):=by
  show _=_
  rw[eN,eA,show({ data:=#[114,101,112,101,97,116,32] } : ByteArray)=bytesOf [114,101,112,101,97,116,32] from rfl,show({ data:=#[32] } : ByteArray)=bytesOf [32] from rfl];simp only[zac]
 obtain⟨V,hV⟩:=ex9 (bytesOf ([114,101,112,101,97,116,32]++tx s.name.name++[32]++prE s.ea));rw[←hV]at HV ⊢;obtain⟨C,hC⟩:=ex9 (stC s p);have HCL:Hid (C.length=26):=by show _=_;rw[hC];rfl
 have k0:C[0]? = some (.string k_repeat):=by rw[hC,←hk];rfl
 have kN:C[2]? = some (.string XN):=by rw[hC,hXN];rfl
 obtain⟨CA,hCA⟩:=ex9 (exC s.ea p.a);have kA:∀j v,CA[j]? = some v→C[4+j]? = some v:=by rw[hC,hCA];exact stC_a s p
 have lA:Hid (CA.length=5):=by show _=_;rw[hCA];rfl
 rw[←hCA]at HXA;obtain⟨O,hO⟩:=ex9 (Obj.cells C.toArray 42 (0,0))
 have HLD:Hid (∀W,Below (w.heap.size+1) (w.alloc (.cells C.toArray 42)) W→W.cell? ⟨w.heap.size,2,none⟩=some (.string XN)∧W.rangeAt w.heap.size 4 CA∧Below w.heap.size w W):=fun W hW=>by
  have hB:Blk W w.heap.size 42 C:=(Blk.new w 42 C).below hW om;exact⟨((hB.cell 2).trans kN),(hB.mid 4 _ kA),((Below.refl w.heap.size w).alloc lr _).trans (hW.mono (Nat.le_succ _))⟩
 have c0:(w.alloc (.cells C.toArray 42)).cell? ⟨w.heap.size,0,none⟩=some (.string k_repeat):=((Blk.new w 42 C).cell 0).trans k0;have hsz:(w.alloc (.cells C.toArray 42)).heap.size=w.heap.size+1:=by simp
 clear hin hl HD hV hO hXN eN zN hXA eA zA y0 y1 kN kA k0;rw[←hC];clear hk hC hCA
 go_enter Tryz.func77, Tryz.ntmps77
 go_upto_region 19 with fail
 obtain⟨W0,hW0⟩:=ex9 (w.alloc (.cells C.toArray 42));rw[←hW0]at HLD hsz ⊢;clear hW0 c0;have hT:Below W0.heap.size W0 W0.drew:=Below.drew (Below.refl _ _);rw[←hsz]at HLD;refine kgo kr 9 (fun W=>Below W0.heap.size W0 W) hT (fun _ _ _ _ _ h=>h) ?_;refine kp 0 (.pointer (some ⟨w.heap.size,2,none⟩)) rfl kr (fun _=>kr) ?_;refine kp 1 (.pointer (some ⟨w.heap.size,2,none⟩)) rfl kr (fun _=>kr) ?_;refine kl 2 (.string XN) rfl kr (fun w' hw'=>zaq (t:=9) (x:=.tmp 113) rr kr agStr (HLD.out w' hw').1) ?_;refine kp 5 (.pointer (some ⟨w.heap.size,4,none⟩)) rfl kr (fun _=>kr) ?_;refine kl 6 (.agg CA.toArray) rfl kr (fun w' hw'=>zak rfl kr (run_loadAt_mid w' w.heap.size 4 39 CA _ (HLD.out w' hw').2.1 Tryz.underlying39 rfl (by rw[lA.out];exact hdEx))) ?_;refine kp 3 (.string ({ data:=#[114,101,112,101,97,116,32] }++XN)) rfl kr (fun _=>zay rr kr kr HCT.out.1) ?_;refine kp 4 (.string ({ data:=#[114,101,112,101,97,116,32] }++XN++{ data:=#[32] })) rfl kr (fun _=>zay rr kr kr HCT.out.2.1) ?_;intro q8 q9;clear q8 q9;refine AnyK.enter 7 (d:=some 119) (f:=37) (args:=#[.agg CA.toArray,.int .i64 0]) rr kr kr ?_;refine(HXA.out _ (HLD.out _ hT).2.2).mono ?_;rintro r w1 ⟨rfl,hB1⟩;have hT1:Below W0.heap.size W0 w1:=hT.trans hB1;refine⟨_,rfl,fun _=>hT1,?_⟩;refine AnyK.pure 8 (v:=.string V) rfl kr (fun _ _ _ h=>h) rfl (fun _=>by rw[←HV.out];exact zay rr kr kr HCT.out.2.2.1) (fun _=>hT1) ?_;refine AnyK.val 9 (v:=.string V) rr kr rfl kr (fun h=>(by cases h)) ?_;refine AnyK.val 10 (v:=.bool true) rr kr rfl kr (fun h=>(by cases h)) ?_;have HB9:Hid (Below w.heap.size w _):=(HLD.out _ hT1).2.2;refine AnyK.done ?_ ?_
 · kernel_rfl
 clear HV HCT HLD hsz hT hT1 hB1 HXA;simp only[List.getElem_toArray,List.getElem_cons_zero,List.getElem_cons_succ,Act.put,List.setIfInBounds_toArray,List.set_cons_succ,List.set_cons_zero];go_wp2;refine bodyPost_ret (results_tmp2 rfl _ _ _) rfl ?_;exact⟨rfl,HB9.out⟩
theorem rl_if{F:Nat→Prop}(s:St)(p:StA)(hk:s.kind=k_if)(hin:LIn F w s p)(hl:(rHd s).length+10≤1000000000):Calls Tryz.prog 77 #[.agg (stC s p).toArray] w fun r w'=>r=.returned (.tuple #[.string (bytesOf (rHd s)),.bool true])∧Below w.heap.size w w':=by
 have HD:rHd s=[105,102,32,97,99,107,101,100,32]++tx s.tag.name:=by
  unfold rHd
  rw[hk]
  first|rfl|(unfold prLine;rfl)
 rw[HD]at hl ⊢;obtain⟨XG,hXG⟩:=ex9 (s.tag.name);have eG:XG=bytesOf (tx s.tag.name):=by rw[zbe];exact hXG
 have zG:XG.size≤(tx s.tag.name).length:=by rw[eG,sz_b];exact lr
 have ZZG:Hid (XG.size≤1000000000):=by show _≤_;simp only[List.length_append]at hl;omega
 have y0:({ data:=#[105,102,32,97,99,107,101,100,32] } : ByteArray).size≤30:=by decide
 have HCT:Hid (({ data:=#[105,102,32,97,99,107,101,100,32] } : ByteArray).size+(XG:ByteArray).size≤9223372036854775807∧True):=by
  simp only[List.length_append]at hl;refine⟨?_,trivial⟩ <;> (try simp only[ByteArray.size_append]) <;> omega
 have HV:Hid ({ data:=#[105,102,32,97,99,107,101,100,32] }++XG=bytesOf ([105,102,32,97,99,107,101,100,32]++tx s.tag.name)):=by
  show _=_
  rw[eG,show({ data:=#[105,102,32,97,99,107,101,100,32] } : ByteArray)=bytesOf [105,102,32,97,99,107,101,100,32] from rfl];simp only[zac]
 obtain⟨V,hV⟩:=ex9 (bytesOf ([105,102,32,97,99,107,101,100,32]++tx s.tag.name));rw[←hV]at HV ⊢;obtain⟨C,hC⟩:=ex9 (stC s p);have HCL:Hid (C.length=26):=by show _=_;rw[hC];rfl
 have k0:C[0]? = some (.string k_if):=by rw[hC,←hk];rfl
 have kG:C[22]? = some (.string XG):=by rw[hC,hXG];rfl
 obtain⟨O,hO⟩:=ex9 (Obj.cells C.toArray 42 (0,0))
 have HLD:Hid (∀W,Below (w.heap.size+1) (w.alloc (.cells C.toArray 42)) W→W.cell? ⟨w.heap.size,22,none⟩=some (.string XG)∧Below w.heap.size w W):=fun W hW=>by
  have hB:Blk W w.heap.size 42 C:=(Blk.new w 42 C).below hW om;exact⟨((hB.cell 22).trans kG),((Below.refl w.heap.size w).alloc lr _).trans (hW.mono (Nat.le_succ _))⟩
 have c0:(w.alloc (.cells C.toArray 42)).cell? ⟨w.heap.size,0,none⟩=some (.string k_if):=((Blk.new w 42 C).cell 0).trans k0;have hsz:(w.alloc (.cells C.toArray 42)).heap.size=w.heap.size+1:=by simp
 clear hin hl HD hV hO hXG eG zG y0 kG k0;rw[←hC];clear hk hC
 go_enter Tryz.func77, Tryz.ntmps77
 have HT0:Hid (Below (w.heap.size+1) (w.alloc (.cells C.toArray 42)) (w.alloc (.cells C.toArray 42))):=Below.refl _ _;have ldG:=(HLD.out _ HT0.out).1;have HV2:=HV;clear HV;have zzG:XG.size≤1000000000:=ZZG.out;have H2:=qh (HLD.out _ HT0.out).2;go_wp2;refine bodyPost_ret (results_tmp2 rfl _ _ _) rfl ?_;exact⟨by rw[←HV2.out];rfl,H2.out⟩
theorem zj5{F:Nat→Prop}{ts:List Lx.Tok}(s:St)(p:StA)(h:WfS ts s)(hin:LIn F w s p)(hl:(rHd s).length+10≤1000000000):Calls Tryz.prog 77 #[.agg (stC s p).toArray] w fun r w'=>r=.returned (.tuple #[.string (bytesOf (rHd s)),.bool (isB s)])∧Below w.heap.size w w':=by
 cases h with
 | send=>exact zru _ p rfl hin hl
 | split=>exact zo4 _ p rfl hin hl
 | cover=>exact zo7 _ p rfl hin hl
 | wait=>exact zrt _ p rfl hin hl
 | block=>exact zo8 _ p rfl hin hl
 | retry=>exact zo5 _ p rfl hin hl
 | every=>exact zo6 _ p rfl hin hl
 | after=>exact zo9 _ p rfl hin hl
 | repeat_=>exact zmw _ p rfl hin hl
 | if_=>exact rl_if _ p rfl hin hl
end
end
section
def RsK(F:Nat→Prop)(ss:List St):Prop :=
 ∀(A:Option Addr) (ca d:Nat) (w:World),BodyIn F w A ss→(prSs ss d).length+2*d+50≤1000000000→Calls Tryz.prog 39 #[.slice A ss.length ca,.string (bytesOf (ind d))] w fun r w'=>r=.returned (.string (bytesOf (prSs ss d)))∧Below w.heap.size w w'
section
variable{w w':World}
attribute [local go_sem ↓] zq0
theorem zp6(d:Nat):bytesOf (ind (d+1))=bytesOf (ind d)++{ data:=#[32,32] }:=by
 rw[show({ data:=#[32,32] } : ByteArray)=bytesOf [32,32] from rfl,zac]
 congr 1
 unfold ind
 rw[show 2*(d+1)=2*d+2 by omega,←List.replicate_append_replicate]
 rfl
theorem zcf{F:Nat→Prop}{ts:List Lx.Tok}(hT:TkOk ts)(ss:List St)(hw:∀s∈ss,WfS ts s)(hx:∀s∈ss,RsK F s.body∧RsK F s.els)(hn8:ss.length≤1000000):RsK F ss:=by
 intro A ca d w hA hl;have HS1:Hid (∀i (hi:i<ss.length),prSs (ss.take (i+1)) d=prSs (ss.take i) d++(ind d++prSt ss[i] d)):=fun i hi=>zfa d ss i hi
 have HSL:Hid (∀i,(bytesOf (prSs (ss.take i) d)).size≤1000000000):=fun i=>by have:=zi0 d ss i;rw[sz_b];omega
 have HSN:Hid (prSs (ss.take ss.length) d=prSs ss d):=(by show _=_;rw[tk lr])
 have HLB:Hid (∀i (hi:i<ss.length),(ind d++prSt ss[i] d).length+2*d+50≤1000000000):=fun i hi=>by
  have h1:=zi0 d ss (i+1);rw[zfa d ss i hi,la9]at h1;omega
 have HXX:Hid (∀i (hi:i<ss.length),WfS ts ss[i]∧RsK F ss[i].body∧RsK F ss[i].els):=fun i hi=>⟨hw _ (List.getElem_mem hi),hx _ (List.getElem_mem hi)⟩
 have HTT:=qh hT;obtain⟨IN,hIN⟩:=ex9 (bytesOf (ind d));have zIN:IN.size≤1000000000:=by rw[hIN,sz_b,zcl];omega
 have HIN1:Hid (bytesOf (ind (d+1))=IN++{ data:=#[32,32] }):=by show _=_;rw[hIN];exact zp6 d
 have HIN:=qh hIN;rw[←hIN];have HA:=qh hA;obtain⟨n,hn⟩:=ex9 (ss.length);have HN:=qh hn;rw[←hn];rw[←hn]at HSN hn8;clear hA hl hw hx hT hIN hn;have hn9:(n:Int)≤1000000:=om
 go_enter Tryz.func39, Tryz.ntmps39
 go_wp2
 go_loopg [5,6,7,8] n (fun kk v5 v6 v7 v8 wr=>∃(i:Nat) (S:ByteArray),v6=.int .i64 i∧v5=.string S∧S=bytesOf (prSs (ss.take i) d)∧kk+i=n∧Hid (Below w.heap.size w wr))
 case atStart=>exact⟨0,_,rfl,rfl,by simp[prSs,bytesOf],rfl,qh (Below.refl _ _)⟩
 case round =>
  obtain⟨i,S,rfl,rfl,hS,hk,HB⟩:=hrel;have zS:S.size≤1000000000:=by rw[hS];exact HSL.out i
  have HS:=qh hS;clear hS
  by_cases hi:i<n
  · have hil:i<ss.length:=by have:=HN.out;omega
    obtain⟨gb,ob,p,rfl,hgb,hrg,hst⟩:=zdy (HA.out.keep (Keep.of_below HB.out F)) i hil;have hii:(i:Int)<(n:Int):=om;have HST:=qh hst;have HSI:=qh (HS1.out i hil);have HLI:=qh (HLB.out i hil);have HXI:=qh (HXX.out i hil);clear hst HS1 HSL HA HXX HLB;generalize ss[i]=s at *
    rcases HXI.out.1.kinds2 with hb|⟨hb,hni⟩|hk2
    · have hf:=zhu d hb
      rw[hf]at HSI HLI;clear hf;have hli:=HLI.out;simp only[List.length_append,List.length_cons,List.length_nil,zcl]at hli
      have HLN:Hid (∀W,Below wr.heap.size wr W→Calls Tryz.prog 77 #[.agg (stC s p).toArray] W fun r w'=>r=.returned (.tuple #[.string (bytesOf (rHd s)),.bool false])∧Below W.heap.size W w'):=fun W hW=>by
       have h1:=zj5 s p HXI.out.1 (LIn.of HTT.out HXI.out.1 (HST.out.keep (Keep.of_below hW F))) (w:=W) om;rw[hb]at h1;exact h1
      obtain⟨SL,hSL⟩:=ex9 (bytesOf (rHd s));have zSL:SL.size≤1000000000:=by rw[hSL,sz_b];omega
      rw[←hSL]at HLN
      have HV:Hid (S++IN++SL++{ data:=#[59,10] } = bytesOf (prSs (ss.take (i+1)) d)):=by
       show _=_
       rw[HSI.out,HS.out,HIN.out,hSL,show({ data:=#[59,10] } : ByteArray)=bytesOf [59,10] from rfl];simp only[zac]
       congr 1
       simp[List.append_assoc]
      have HCR:Hid (∀W,Below wr.heap.size wr W→W.rangeAt gb (ob+i*26) (stC s p)):=fun W hW j v hv=>(World.cell?_of_block (a:=⟨gb,ob+i*26+j,none⟩) (hW.block gb hgb)).trans (hrg j v hv)
      have HC0:=True.intro;have HC24:Hid ((stC s p)[24]? = some (.slice p.y.1 s.body.length p.y.2)):=rfl;have HC25:Hid ((stC s p)[25]? = some (.slice p.z.1 s.els.length p.z.2)):=rfl;have HCL:=qh (zb8 s p);have HBW:Hid (∀W,Below wr.heap.size wr W→Below w.heap.size w W):=fun W hW=>HB.out.trans (hW.mono HB.out.size)
      clear hli hb HXI HST HSI HLI hSL;generalize s.body.length=my at *;generalize s.els.length=mz at *;generalize stC s p=C at *;have hld:=run_loadAt_mid wr gb (ob+i*26) 42 C _ hrg Tryz.underlying42 rfl (by rw[HCL.out];exact hdSt);have hld2:(ldAt 42 (.pointer (some ⟨gb,ob+i*26,none⟩))).run Tryz.prog wr=.ok (.agg C.toArray) wr:=hld;clear hld hrg
      go_wp2_with (go_at_call 77;(refine(HLN.out _ (Below.refl _ _)).mono ?_);rintro r w2 ⟨rfl,hB2⟩;have H2:Hid (Below wr.heap.size wr w2):=hB2;clear hld2 hB2)
      go_roundg (n-(i+1))
      case measure=>omega
      case rel=>exact⟨i+1,_,by simp,rfl,by rw[←HV.out],by omega,qh (HBW.out _ H2.out)⟩
    · have hf:=zdf d hb (fun h=>absurd h hni)
      rw[hf]at HSI HLI;clear hf;have hli:=HLI.out
      unfold prBody at hli HSI
      simp only[List.length_append,List.length_cons,List.length_nil,zcl]at hli
      have HLN:Hid (∀W,Below wr.heap.size wr W→Calls Tryz.prog 77 #[.agg (stC s p).toArray] W fun r w'=>r=.returned (.tuple #[.string (bytesOf (rHd s)),.bool true])∧Below W.heap.size W w'):=fun W hW=>by
       have h1:=zj5 s p HXI.out.1 (LIn.of HTT.out HXI.out.1 (HST.out.keep (Keep.of_below hW F))) (w:=W) om;rw[hb]at h1;exact h1
      have HYB:Hid (RW wr 39 [.slice p.y.1 s.body.length p.y.2,.string (IN++{ data:=#[32,32] })] (bytesOf (prSs s.body (d+1)))):=fun W hW=>by
       rw[←HIN1.out];exact HXI.out.2.1 p.y.1 p.y.2 (d+1) W (HST.out.2.1.keep (Keep.of_below hW F)) om
      obtain⟨SL,hSL⟩:=ex9 (bytesOf (rHd s));have zSL:SL.size≤1000000000:=by rw[hSL,sz_b];omega
      rw[←hSL]at HLN;obtain⟨SB,hSB⟩:=ex9 (bytesOf (prSs s.body (d+1)));have zSB:SB.size≤1000000000:=by rw[hSB,sz_b];omega
      rw[←hSB]at HYB
      have HV:Hid (S++IN++SL++{ data:=#[32,123,10] }++SB++IN++{ data:=#[125,10] } = bytesOf (prSs (ss.take (i+1)) d)):=by
       show _=_
       rw[HSI.out,HS.out,HIN.out,hSL,hSB,show({ data:=#[32,123,10] } : ByteArray)=bytesOf [32,123,10] from rfl,show({ data:=#[125,10] } : ByteArray)=bytesOf [125,10] from rfl];simp only[zac]
       congr 1
       simp[List.append_assoc]
      have HCR:Hid (∀W,Below wr.heap.size wr W→W.rangeAt gb (ob+i*26) (stC s p)):=fun W hW j v hv=>(World.cell?_of_block (a:=⟨gb,ob+i*26+j,none⟩) (hW.block gb hgb)).trans (hrg j v hv)
      have HC0:Hid ((stC s p)[0]? = some (.string s.kind)):=rfl;have HC24:Hid ((stC s p)[24]? = some (.slice p.y.1 s.body.length p.y.2)):=rfl;have HC25:Hid ((stC s p)[25]? = some (.slice p.z.1 s.els.length p.z.2)):=rfl;have HCL:=qh (zb8 s p);have HBW:Hid (∀W,Below wr.heap.size wr W→Below w.heap.size w W):=fun W hW=>HB.out.trans (hW.mono HB.out.size)
      have sK:(s.kind.toList == [105,102])=false:=strl hni;clear hli hb HXI HST HSI HLI hSL hSB hni;generalize s.kind=K at *;generalize s.body.length=my at *;generalize s.els.length=mz at *;generalize stC s p=C at *;have hld:=run_loadAt_mid wr gb (ob+i*26) 42 C _ hrg Tryz.underlying42 rfl (by rw[HCL.out];exact hdSt);have hld2:(ldAt 42 (.pointer (some ⟨gb,ob+i*26,none⟩))).run Tryz.prog wr=.ok (.agg C.toArray) wr:=hld;clear hld hrg
      go_wp2_with (first
       | (go_at_call 39;(refine(HYB.out _ H2.out).mono ?_);rintro r w3 ⟨rfl,hB3⟩;have H3:Hid (Below wr.heap.size wr w3):=H2.out.trans (hB3.mono H2.out.size);clear hB3 c24;have c0:w3.cell? ⟨gb,ob+i*26,none⟩=some (.string K):=HCR.out w3 H3.out 0 _ HC0.out;have c25:w3.cell? ⟨gb,ob+i*26+25,none⟩=some (.slice p.z.1 mz p.z.2):=HCR.out w3 H3.out 25 _ HC25.out)
       | (go_at_call 77;(refine(HLN.out _ (Below.refl _ _)).mono ?_);rintro r w2 ⟨rfl,hB2⟩;have H2:Hid (Below wr.heap.size wr w2):=hB2;clear hld2 hB2;have c24:w2.cell? ⟨gb,ob+i*26+24,none⟩=some (.slice p.y.1 my p.y.2):=HCR.out w2 H2.out 24 _ HC24.out))
      go_roundg (n-(i+1))
      case measure=>omega
      case rel=>exact⟨i+1,_,by simp,rfl,by rw[←HV.out],by omega,qh (HBW.out _ H3.out)⟩
    · have hb:isB s=true:=isB_t (by rw[hk2];simp)
      by_cases he:s.els=[]
      · have hf:=zdf d hb (fun _=>he)
        rw[hf]at HSI HLI;clear hf;have hli:=HLI.out
        unfold prBody at hli HSI
        simp only[List.length_append,List.length_cons,List.length_nil,zcl]at hli
        have HLN:Hid (∀W,Below wr.heap.size wr W→Calls Tryz.prog 77 #[.agg (stC s p).toArray] W fun r w'=>r=.returned (.tuple #[.string (bytesOf (rHd s)),.bool true])∧Below W.heap.size W w'):=fun W hW=>by
         have h1:=zj5 s p HXI.out.1 (LIn.of HTT.out HXI.out.1 (HST.out.keep (Keep.of_below hW F))) (w:=W) om;rw[hb]at h1;exact h1
        have HYB:Hid (RW wr 39 [.slice p.y.1 s.body.length p.y.2,.string (IN++{ data:=#[32,32] })] (bytesOf (prSs s.body (d+1)))):=fun W hW=>by
         rw[←HIN1.out];exact HXI.out.2.1 p.y.1 p.y.2 (d+1) W (HST.out.2.1.keep (Keep.of_below hW F)) om
        obtain⟨SL,hSL⟩:=ex9 (bytesOf (rHd s));have zSL:SL.size≤1000000000:=by rw[hSL,sz_b];omega
        rw[←hSL]at HLN;obtain⟨SB,hSB⟩:=ex9 (bytesOf (prSs s.body (d+1)));have zSB:SB.size≤1000000000:=by rw[hSB,sz_b];omega
        rw[←hSB]at HYB
        have HV:Hid (S++IN++SL++{ data:=#[32,123,10] }++SB++IN++{ data:=#[125,10] } = bytesOf (prSs (ss.take (i+1)) d)):=by
         show _=_
         rw[HSI.out,HS.out,HIN.out,hSL,hSB,show({ data:=#[32,123,10] } : ByteArray)=bytesOf [32,123,10] from rfl,show({ data:=#[125,10] } : ByteArray)=bytesOf [125,10] from rfl];simp only[zac]
         congr 1
         simp[List.append_assoc]
        have HCR:Hid (∀W,Below wr.heap.size wr W→W.rangeAt gb (ob+i*26) (stC s p)):=fun W hW j v hv=>(World.cell?_of_block (a:=⟨gb,ob+i*26+j,none⟩) (hW.block gb hgb)).trans (hrg j v hv)
        have HC0:Hid ((stC s p)[0]? = some (.string s.kind)):=rfl;have HC24:Hid ((stC s p)[24]? = some (.slice p.y.1 s.body.length p.y.2)):=rfl;have HC25:Hid ((stC s p)[25]? = some (.slice p.z.1 s.els.length p.z.2)):=rfl;have HCL:=qh (zb8 s p);have HBW:Hid (∀W,Below wr.heap.size wr W→Below w.heap.size w W):=fun W hW=>HB.out.trans (hW.mono HB.out.size)
        rw[hk2]at HC0;have hz0:s.els.length=0:=by rw[he];rfl
        clear hli hb HXI HST HSI HLI hSL hSB hk2 he;generalize s.body.length=my at *;generalize s.els.length=mz at *;subst hz0;generalize stC s p=C at *;have hld:=run_loadAt_mid wr gb (ob+i*26) 42 C _ hrg Tryz.underlying42 rfl (by rw[HCL.out];exact hdSt);have hld2:(ldAt 42 (.pointer (some ⟨gb,ob+i*26,none⟩))).run Tryz.prog wr=.ok (.agg C.toArray) wr:=hld;clear hld hrg
        go_wp2_with (first
         | (go_at_call 39;(refine(HYB.out _ H2.out).mono ?_);rintro r w3 ⟨rfl,hB3⟩;have H3:Hid (Below wr.heap.size wr w3):=H2.out.trans (hB3.mono H2.out.size);clear hB3 c24;have c0:w3.cell? ⟨gb,ob+i*26,none⟩=some (.string k_if):=HCR.out w3 H3.out 0 _ HC0.out;have c25:w3.cell? ⟨gb,ob+i*26+25,none⟩=some (.slice p.z.1 0 p.z.2):=HCR.out w3 H3.out 25 _ HC25.out)
         | (go_at_call 77;(refine(HLN.out _ (Below.refl _ _)).mono ?_);rintro r w2 ⟨rfl,hB2⟩;have H2:Hid (Below wr.heap.size wr w2):=hB2;clear hld2 hB2;have c24:w2.cell? ⟨gb,ob+i*26+24,none⟩=some (.slice p.y.1 my p.y.2):=HCR.out w2 H2.out 24 _ HC24.out))
        go_roundg (n-(i+1))
        case measure=>omega
        case rel=>exact⟨i+1,_,by simp,rfl,by rw[←HV.out],by omega,qh (HBW.out _ H3.out)⟩
      · have hf:=zhv d hk2 he
        rw[hf]at HSI HLI;clear hf;have hli:=HLI.out
        unfold prBody at hli HSI
        simp only[List.length_append,List.length_cons,List.length_nil,zcl]at hli
        have HLN:Hid (∀W,Below wr.heap.size wr W→Calls Tryz.prog 77 #[.agg (stC s p).toArray] W fun r w'=>r=.returned (.tuple #[.string (bytesOf (rHd s)),.bool true])∧Below W.heap.size W w'):=fun W hW=>by
         have h1:=zj5 s p HXI.out.1 (LIn.of HTT.out HXI.out.1 (HST.out.keep (Keep.of_below hW F))) (w:=W) om;rw[hb]at h1;exact h1
        have HYB:Hid (RW wr 39 [.slice p.y.1 s.body.length p.y.2,.string (IN++{ data:=#[32,32] })] (bytesOf (prSs s.body (d+1)))):=fun W hW=>by
         rw[←HIN1.out];exact HXI.out.2.1 p.y.1 p.y.2 (d+1) W (HST.out.2.1.keep (Keep.of_below hW F)) om
        have HZB:Hid (RW wr 39 [.slice p.z.1 s.els.length p.z.2,.string (IN++{ data:=#[32,32] })] (bytesOf (prSs s.els (d+1)))):=fun W hW=>by
         rw[←HIN1.out];exact HXI.out.2.2 p.z.1 p.z.2 (d+1) W (HST.out.2.2.keep (Keep.of_below hW F)) om
        obtain⟨SL,hSL⟩:=ex9 (bytesOf (rHd s));have zSL:SL.size≤1000000000:=by rw[hSL,sz_b];omega
        rw[←hSL]at HLN;obtain⟨SB,hSB⟩:=ex9 (bytesOf (prSs s.body (d+1)));have zSB:SB.size≤1000000000:=by rw[hSB,sz_b];omega
        rw[←hSB]at HYB;obtain⟨SE,hSE⟩:=ex9 (bytesOf (prSs s.els (d+1)));have zSE:SE.size≤1000000000:=by rw[hSE,sz_b];omega
        rw[←hSE]at HZB
        have HV:Hid (S++IN++SL++{ data:=#[32,123,10] }++SB++IN++{ data:=#[125,32,101,108,115,101,32,123,10] }++SE++IN++{ data:=#[125,10] } = bytesOf (prSs (ss.take (i+1)) d)):=by
         show _=_
         rw[HSI.out,HS.out,HIN.out,hSL,hSB,hSE,show({ data:=#[32,123,10] } : ByteArray)=bytesOf [32,123,10] from rfl,show({ data:=#[125,32,101,108,115,101,32,123,10] } : ByteArray)=bytesOf [125,32,101,108,115,101,32,123,10] from rfl,show({ data:=#[125,10] } : ByteArray)=bytesOf [125,10] from rfl];simp only[zac]
         congr 1
         simp[List.append_assoc]
        have HCR:Hid (∀W,Below wr.heap.size wr W→W.rangeAt gb (ob+i*26) (stC s p)):=fun W hW j v hv=>(World.cell?_of_block (a:=⟨gb,ob+i*26+j,none⟩) (hW.block gb hgb)).trans (hrg j v hv)
        have HC0:Hid ((stC s p)[0]? = some (.string s.kind)):=rfl;have HC24:Hid ((stC s p)[24]? = some (.slice p.y.1 s.body.length p.y.2)):=rfl;have HC25:Hid ((stC s p)[25]? = some (.slice p.z.1 s.els.length p.z.2)):=rfl;have HCL:=qh (zb8 s p);have HBW:Hid (∀W,Below wr.heap.size wr W→Below w.heap.size w W):=fun W hW=>HB.out.trans (hW.mono HB.out.size)
        rw[hk2]at HC0;have hz0:(0:Int)<(s.els.length:Int):=by have:=List.length_pos_iff.2 he;omega
        clear hli hb HXI HST HSI HLI hSL hSB hSE hk2 he;generalize s.body.length=my at *;generalize s.els.length=mz at *;generalize stC s p=C at *;have hld:=run_loadAt_mid wr gb (ob+i*26) 42 C _ hrg Tryz.underlying42 rfl (by rw[HCL.out];exact hdSt);have hld2:(ldAt 42 (.pointer (some ⟨gb,ob+i*26,none⟩))).run Tryz.prog wr=.ok (.agg C.toArray) wr:=hld;clear hld hrg
        go_wp2_with (first
         | (go_at_call 39;(refine(HZB.out _ H3.out).mono ?_);rintro r w4 ⟨rfl,hB4⟩;have H4:Hid (Below wr.heap.size wr w4):=H3.out.trans (hB4.mono H3.out.size);clear hB4 c0 c25)
         | (go_at_call 39;(refine(HYB.out _ H2.out).mono ?_);rintro r w3 ⟨rfl,hB3⟩;have H3:Hid (Below wr.heap.size wr w3):=H2.out.trans (hB3.mono H2.out.size);clear hB3 c24;have c0:w3.cell? ⟨gb,ob+i*26,none⟩=some (.string k_if):=HCR.out w3 H3.out 0 _ HC0.out;have c25:w3.cell? ⟨gb,ob+i*26+25,none⟩=some (.slice p.z.1 mz p.z.2):=HCR.out w3 H3.out 25 _ HC25.out)
         | (go_at_call 77;(refine(HLN.out _ (Below.refl _ _)).mono ?_);rintro r w2 ⟨rfl,hB2⟩;have H2:Hid (Below wr.heap.size wr w2):=hB2;clear hld2 hB2;have c24:w2.cell? ⟨gb,ob+i*26+24,none⟩=some (.slice p.y.1 my p.y.2):=HCR.out w2 H2.out 24 _ HC24.out))
        go_roundg (n-(i+1))
        case measure=>omega
        case rel=>exact⟨i+1,_,by simp,rfl,by rw[←HV.out],by omega,qh (HBW.out _ H4.out)⟩
  · have hii:¬(i:Int)<(n:Int):=om
    obtain rfl:i=n:=om;clear HA HS1 HSL HXX HLB;go_wp2;go_ret;exact⟨by rw[HS.out,HSN.out];rfl,HB.out⟩
end
end
section
section
variable{w w':World}
attribute [local go_sem ↓] zq1 zh3
theorem zk9{F:Nat→Prop}{ts:List Lx.Tok}(hT:TkOk ts)(t:Sr)(hd:∀d∈t.decls,WfD ts d)(hdl:t.decls.length≤1000000)(hb:RsK F t.body)(A D:Option Addr)(ca cd:Nat)(w:World)(hD:DcsIn F w D t.decls)(hA:BodyIn F w A t.body)(hl:(prTop t).length+100≤1000000000):Calls Tryz.prog 13 #[.agg #[.slice D t.decls.length cd,.slice A t.body.length ca]] w fun r w'=>r=.returned (.string (bytesOf (prTop t)))∧Below w.heap.size w w':=by
 obtain⟨ds,bs⟩:=t
 unfold prTop at hl ⊢
 dsimp only at *;rw[la9]at hl;have HS1:Hid (∀i (hi:i<ds.length),(ds.take (i+1)).flatMap prDc=(ds.take i).flatMap prDc++prDc ds[i]):=fun i hi=>zgu prDc ds i hi
 have HSL:Hid (∀i,(bytesOf ((ds.take i).flatMap prDc)).size≤1000000000):=fun i=>by have:=fm_le prDc ds i;rw[sz_b];omega
 have HLB:Hid (∀i (hi:i<ds.length),((ds.take i).flatMap prDc).length+(prDc ds[i]).length+100≤1000000000):=fun i hi=>by
  have h1:=fm_le prDc ds (i+1);rw[zgu prDc ds i hi,la9]at h1;omega
 have HSN:Hid (ds.take ds.length=ds):=tk lr;have HXX:Hid (∀i (hi:i<ds.length),WfD ts ds[i]):=fun i hi=>hd _ (List.getElem_mem hi)
 have HDD:Hid (∀W,Below w.heap.size w W→DcsIn F W D ds):=fun W hW=>hD.keep (Keep.of_below hW F)
 have HBS:Hid (∀W,Below w.heap.size w W→Calls Tryz.prog 39 #[.slice A bs.length ca,.string { data:=#[] }] W fun r w'=>(r=.returned (.string (bytesOf (prSs bs 0))))∧Below W.heap.size W w'):=fun W hW=>hb A ca 0 W (hA.keep (Keep.of_below hW F)) om
 have hbz:(bytesOf (prSs bs 0)).size≤1000000000:=by rw[sz_b];omega
 have HTT:=qh hT;obtain⟨n,hn⟩:=ex9 (ds.length);have HN:=qh hn;rw[←hn]at HSN hdl ⊢;generalize bs.length=bn at *
 have HW1:Hid (∀W,W=w.alloc (.cells #[.slice D n cd,.slice A bn ca] 26)→Below w.heap.size w W∧Blk W w.heap.size 26 [.slice D n cd,.slice A bn ca]∧W.heap.size=w.heap.size+1):=by
  rintro W rfl;exact⟨(Below.refl _ _).alloc lr _,Blk.new _ _ _,by simp⟩
 clear hd hb hD hA hl hT hn;have hn9:(n:Int)≤1000000:=om
 go_enter Tryz.func13, Tryz.ntmps13
 go_upto_region 1 with fail
 obtain⟨W1,hW1⟩:=ex9 (w.alloc (.cells #[.slice D n cd,.slice A bn ca] 26));have HX:=qh (HW1.out W1 hW1);rw[←hW1];clear HW1 hW1
 have HBX:Hid (∀W,Below (w.heap.size+1) W1 W→W.cell? ⟨w.heap.size,0,none⟩=some (.slice D n cd)∧W.cell? ⟨w.heap.size,1,none⟩=some (.slice A bn ca)∧w.heap.size<W.heap.size∧Below w.heap.size w W):=fun W hW=>by
  have h1:=HX.out.2.1.below hW (Nat.lt_succ_self _);exact⟨h1.cell 0,h1.cell 1,h1.lt,HX.out.1.trans (hW.mono om)⟩
 have HSZ:Hid (W1.heap.size=w.heap.size+1):=HX.out.2.2;obtain⟨G,hG⟩:=ex9 (w.heap.size);rw[←hG]at HBX HSZ ⊢;have HGE:Hid (∀W,Below G w W→Below w.heap.size w W):=by subst hG;exact fun W h=>h
 rw[←hG]at HDD HBS;clear HX hG;obtain⟨s0,s1,s2,_⟩:=HBX.out W1 (Below.refl _ _);go_wp2;clear s0 s1 s2
 go_loopg [3,4,5,6] n (fun kk v3 v4 v5 v6 wr=>∃(i:Nat) (S:ByteArray),v4=.int .i64 i∧v3=.string S∧S=bytesOf ((ds.take i).flatMap prDc)∧kk+i=n∧Hid (Below (G+1) W1 wr))
 case atStart=>exact⟨0,_,rfl,rfl,by simp[bytesOf],rfl,qh (Below.refl _ _)⟩
 case round =>
  rename World=>wo
  obtain⟨i,S,rfl,rfl,hS,hk,HB⟩:=hrel;have zS:S.size≤1000000000:=by rw[hS];exact HSL.out i
  have HS:=qh hS;clear hS;obtain⟨s0,s1,s2,_⟩:=HBX.out wo HB.out
  by_cases hi:i<n
  · have hil:i<ds.length:=by have:=HN.out;omega
    obtain⟨db,dof,p,rfl,hdb,hrg,hdi⟩:=zex (HDD.out wo (HBX.out wo HB.out).2.2.2) i hil;have hii:(i:Int)<(n:Int):=om;have HDI:=qh hdi;have HSI:=qh (HS1.out i hil);have HLI:=qh (HLB.out i hil);have HXI:=qh (HXX.out i hil);clear hdi HS1 HSL HDD HXX HLB HBS s1 hbz;generalize ds[i]=dd at *;have HCL:=qh (zdj dd p);have HCO:=qh (zby dd p);have hld:=run_loadAt_mid wo db (dof+i*9) 45 (dcC dd p) _ hrg Tryz.underlying45 rfl (by rw[HCL.out];exact hdDc);have hld2:(ldAt 45 (.pointer (some ⟨db,dof+i*9,none⟩))).run Tryz.prog wo=.ok (.agg (dcC dd p).toArray) wo:=hld;clear hld hrg
    have HOV:Hid (∀W o,Only (wo.alloc o) W wo.heap.size→Below (G+1) W1 W∧Below wo.heap.size wo W∧wo.heap.size<W.heap.size):=fun W o ho=>by
     have h1:Below wo.heap.size wo W:=ho.below ((Below.refl _ _).alloc lr _) lr sy;exact⟨HB.out.trans (h1.mono (by have:=HB.out.size;have:=HSZ.out;omega)),h1,by have:=ho.grown.size;simp at this;omega⟩
    have hgg:G+1≤wo.heap.size:=by have:=HB.out.size;have:=HSZ.out;omega
    obtain⟨XN,hXN⟩:=ex9 (dd.name.name);have eN:XN=bytesOf (tx dd.name.name):=by rw[zbe];exact hXN
    rcases HXI.out.2 with ⟨hk2,hv,hp⟩|⟨hk2,hv,hp0,hpl,hp⟩
    · have hf:prDc dd=[108,101,116,32]++tx dd.name.name++[32,61,32]++prE dd.value++[59,10]:=by unfold prDc;rw[if_pos hk2]
      rw[hf]at HSI HLI;have hli:=HLI.out;simp only[List.length_append,List.length_cons,List.length_nil]at hli
      have HXE:Hid (RW wo 37 [.agg (exC dd.value p.1).toArray,.int .i64 0] (bytesOf (prE dd.value))):=fun W hW=>by
       have h1:=zc3 (hv.1.ok HTT.out) p.1 0 W om om (HDI.out.1.keep (Keep.of_below hW F))
       unfold rxR at h1
       simpa[par] using h1
      obtain⟨XE,hXE⟩:=ex9 (bytesOf (prE dd.value));rw[←hXE]at HXE;have zE:XE.size≤1000000000:=by rw[hXE,sz_b];omega
      have zN:XN.size≤1000000000:=by rw[eN,sz_b];omega
      have HV:Hid (S++{ data:=#[108,101,116,32] }++XN++{ data:=#[32,61,32] }++XE++{ data:=#[59,10] } = bytesOf ((ds.take (i+1)).flatMap prDc)):=by
       show _=_
       rw[HSI.out,HS.out,eN,hXE,show({ data:=#[108,101,116,32] } : ByteArray)=bytesOf [108,101,116,32] from rfl,show({ data:=#[32,61,32] } : ByteArray)=bytesOf [32,61,32] from rfl,show({ data:=#[59,10] } : ByteArray)=bytesOf [59,10] from rfl];simp only[zac]
       congr 1
       simp[List.append_assoc]
      obtain⟨V,hV⟩:=ex9 (bytesOf ((ds.take (i+1)).flatMap prDc));rw[←hV]at HV;have HVV:=qh hV;have y0:({ data:=#[108,101,116,32] } : ByteArray).size≤30:=by decide
      have y1:({ data:=#[32,61,32] } : ByteArray).size≤30:=by decide
      have y2:({ data:=#[59,10] } : ByteArray).size≤30:=by decide
      have HCT:Hid ((S:ByteArray).size+({ data:=#[108,101,116,32] } : ByteArray).size≤9223372036854775807∧(S++{ data:=#[108,101,116,32] } : ByteArray).size+(XN:ByteArray).size≤9223372036854775807∧(S++{ data:=#[108,101,116,32] }++XN:ByteArray).size+({ data:=#[32,61,32] } : ByteArray).size≤9223372036854775807∧(S++{ data:=#[108,101,116,32] }++XN++{ data:=#[32,61,32] } : ByteArray).size+(XE:ByteArray).size≤9223372036854775807∧(S++{ data:=#[108,101,116,32] }++XN++{ data:=#[32,61,32] }++XE:ByteArray).size+({ data:=#[59,10] } : ByteArray).size≤9223372036854775807∧True):=by
       refine⟨?_,?_,?_,?_,?_,trivial⟩ <;> (try simp only[ByteArray.size_append]) <;> omega
      have HC0:Hid ((dcC dd p)[0]? = some (.string k_let)):=by show _=_;rw[←hk2];rfl
      have HC1:Hid ((dcC dd p)[1]? = some (.string XN)):=by show _=_;rw[hXN];rfl
      obtain⟨CE,hCE⟩:=ex9 (exC dd.value p.1);have HKE:Hid (∀j v,CE[j]? = some v→(dcC dd p)[3+j]? = some v):=by show ∀j v,_;rw[hCE];exact dcC_v dd p
      have HLE:Hid (CE.length=5):=by show _=_;rw[hCE];rfl
      rw[←hCE]at HXE;clear hf hli hk2 hv hp HSI HLI HDI HXI hXE hV y0 y1 y2 hCE hXN eN;generalize dcC dd p=C at *
      go_upto_region 9 with (refine zaa rfl 45 (.tmp 5) (.tmp 18) rfl wo.heap.size C rr rr 45 (dcC zDc pl0) (by exact Blk.new' rfl rfl) (by rw[HCL.out];exact hdDc) HCO.out HCL.out ?_;intro w1 hb1 ho1;have HB1:=qh hb1;have H1:=qh (HOV.out w1 _ ho1);have c0:w1.cell? ⟨wo.heap.size,0,none⟩=some (.string k_let):=(hb1.cell 0).trans HC0.out; have hlt1:=H1.out.2.2;clear hb1 ho1 hld2)
      clear c0 s0 s2
      have HLD:Hid (∀W,Below w1.heap.size w1 W→W.cell? ⟨wo.heap.size,1,none⟩=some (.string XN)∧W.rangeAt wo.heap.size 3 CE∧Below wo.heap.size wo W∧Below (G+1) W1 W):=fun W hW=>by
       have hB:=HB1.out.below hW HB1.out.lt;exact⟨(hB.cell 1).trans HC1.out,hB.mid 3 _ HKE.out,H1.out.2.1.trans (hW.mono (Nat.le_of_lt hlt1)),H1.out.1.trans (hW.mono om)⟩
      have hT:Below w1.heap.size w1 w1.drew:=Below.drew (Below.refl _ _);refine kgo kr 12 (fun W=>Below w1.heap.size w1 W) hT (fun _ _ _ _ _ h=>h) ?_;refine kp 0 (.string S) rfl kr (fun _=>kr) ?_;refine kp 1 (.string (S++{ data:=#[108,101,116,32] })) rfl kr (fun _=>zay rr kr kr HCT.out.1) ?_;refine kp 2 (.pointer (some ⟨wo.heap.size,1,none⟩)) rfl kr (fun _=>kr) ?_;refine kp 3 (.pointer (some ⟨wo.heap.size,1,none⟩)) rfl kr (fun _=>kr) ?_;refine kl 4 (.string XN) rfl kr (fun w' hw'=>zaq (t:=9) (x:=.tmp 28) rr kr agStr (HLD.out w' hw').1) ?_;refine kp 5 (.string (S++{ data:=#[108,101,116,32] }++XN)) rfl kr (fun _=>zay rr kr kr HCT.out.2.1) ?_;refine kp 6 (.string (S++{ data:=#[108,101,116,32] }++XN++{ data:=#[32,61,32] })) rfl kr (fun _=>zay rr kr kr HCT.out.2.2.1) ?_;refine kp 7 (.pointer (some ⟨wo.heap.size,3,none⟩)) rfl kr (fun _=>kr) ?_;refine kl 8 (.agg CE.toArray) rfl kr (fun w' hw'=>zak rfl kr (run_loadAt_mid w' wo.heap.size 3 39 CE _ (HLD.out w' hw').2.1 Tryz.underlying39 rfl (by rw[HLE.out];exact hdEx))) ?_;intro q8 q9;clear q8 q9;refine AnyK.enter 9 (d:=some 34) (f:=37) (args:=#[.agg CE.toArray,.int .i64 0]) rr kr kr ?_;refine(HXE.out _ (HLD.out _ hT).2.2.1).mono ?_;rintro r w2 ⟨rfl,hB2⟩;have hT2:Below w1.heap.size w1 w2:=hT.trans hB2;refine⟨_,rfl,fun _=>hT2,?_⟩;refine AnyK.pure 10 (v:=.string (S++{ data:=#[108,101,116,32] }++XN++{ data:=#[32,61,32] }++XE)) rfl kr (fun _ _ _ h=>h) rfl (fun _=>zay rr kr kr HCT.out.2.2.2.1) (fun _=>hT2) ?_;refine AnyK.pure 11 (v:=.string V) rfl kr (fun _ _ _ h=>h) rfl (fun _=>by rw[←HV.out];exact zay rr kr kr HCT.out.2.2.2.2.1) (fun _=>hT2) ?_;refine AnyK.val 12 (v:=.string V) rr kr rfl kr (fun h=>(by cases h)) ?_;have HB9:Hid (Below (G+1) W1 w2):=(HLD.out _ hT2).2.2.2;refine AnyK.done ?_ ?_
      · kernel_rfl
      clear HV HCT HLD hT hT2 hB2 HXE;simp only[List.getElem_toArray,List.getElem_cons_zero,List.getElem_cons_succ,Act.put,List.setIfInBounds_toArray,List.set_cons_succ,List.set_cons_zero];go_wp2;go_roundg (n-(i+1))
      case measure=>omega
      case rel=>exact⟨i+1,V,by simp,rfl,HVV.out,by omega,HB9⟩
    · have hf:prDc dd=[114,111,117,116,101,32]++tx dd.name.name++[32,61,32]++sepB [32,62,32] (dd.places.map prPl)++[59,10]:=by unfold prDc;rw[if_neg (by rw[hk2];decide),if_pos hk2]
      rw[hf]at HSI HLI;have hli:=HLI.out;simp only[List.length_append,List.length_cons,List.length_nil]at hli;have zN:XN.size≤1000000000:=by rw[eN,sz_b];omega
      have HC0:Hid ((dcC dd p)[0]? = some (.string k_route)):=by show _=_;rw[←hk2];rfl
      have HC1:Hid ((dcC dd p)[1]? = some (.string XN)):=by show _=_;rw[hXN];rfl
      have HC8:Hid ((dcC dd p)[8]? = some (.slice p.2.1 dd.places.length p.2.2)):=rfl;obtain⟨T0,hT0⟩:=ex9 ((ds.take i).flatMap prDc++[114,111,117,116,101,32]++tx dd.name.name++[32,61,32]);have hTl:T0.length=((ds.take i).flatMap prDc).length+6+(tx dd.name.name).length+3:=by rw[hT0];simp only[List.length_append,List.length_cons,List.length_nil]
      have HVE:Hid ((ds.take (i+1)).flatMap prDc=T0++sepB [32,62,32] (dd.places.map prPl)++[59,10]):=by show _=_;rw[HSI.out,hT0];simp[List.append_assoc]
      have HVS:Hid (S++{ data:=#[114,111,117,116,101,32] }++XN++{ data:=#[32,61,32] } = bytesOf T0):=by
       show _=_
       rw[hT0,HS.out,eN,show({ data:=#[114,111,117,116,101,32] } : ByteArray)=bytesOf [114,111,117,116,101,32] from rfl,show({ data:=#[32,61,32] } : ByteArray)=bytesOf [32,61,32] from rfl];simp only[zac]
      have HSEP:Hid (∀k,k≤dd.places.length→T0.length+(sepB [32,62,32] ((dd.places.map prPl).take k)).length+50≤1000000000):=fun k hk=>by
       have h1:=zek [32,62,32] (dd.places.map prPl) (dd.places.length-k) k (by simp;omega);omega
      have hpi:∀k (hk:k<dd.places.length),(dd.places.map prPl)[k]? = some (prPl dd.places[k]):=fun k hk=>by rw[List.getElem?_map,ge9 hk];rfl
      have HPS:Hid (∀k (hk:k<dd.places.length),0<k→sepB [32,62,32] ((dd.places.map prPl).take (k+1))=sepB [32,62,32] ((dd.places.map prPl).take k)++[32,62,32]++prPl dd.places[k]):=fun k hk h0=>zcm h0 (hpi k hk)
      have HP0:Hid (∀(hk:0<dd.places.length),sepB [32,62,32] ((dd.places.map prPl).take 1)=prPl dd.places[0]):=fun hk=>zdq (hpi 0 hk)
      have HPN:Hid (sepB [32,62,32] ((dd.places.map prPl).take dd.places.length)=sepB [32,62,32] (dd.places.map prPl)):=(by show _=_;rw[tk sy]);have HPW:Hid (∀k (hk:k<dd.places.length),WfP ts dd.places[k]):=fun k hk=>hp _ (List.getElem_mem hk)
      have HPI:=qh HDI.out.2;clear hf hli hk2 hv hp hp0 HSI HLI HDI HXI hpi hTl hT0 eN hXN;generalize dd.places=ps at *;generalize dcC dd p=C at *;obtain⟨m,hm⟩:=ex9 (ps.length);have HM:=qh hm;rw[←hm]at HC8 HPN hpl HSEP;clear hm;have hm9:(m:Int)≤10000:=om;obtain⟨PA,pc⟩:=p;obtain⟨PB,pd⟩:=pc;dsimp only at HC8 HPI
      go_upto_region 12 with (refine zaa rfl 45 (.tmp 5) (.tmp 18) rfl wo.heap.size C rr rr 45 (dcC zDc pl0) (by exact Blk.new' rfl rfl) (by rw[HCL.out];exact hdDc) HCO.out HCL.out ?_;intro w1 hb1 ho1;have HB1:=qh hb1;have H1:=qh (HOV.out w1 _ ho1);have c0:w1.cell? ⟨wo.heap.size,0,none⟩=some (.string k_route):=(hb1.cell 0).trans HC0.out;have c1:w1.cell? ⟨wo.heap.size,1,none⟩=some (.string XN):=(hb1.cell 1).trans HC1.out;have hlt1:=H1.out.2.2;clear hb1 ho1 hld2)
      clear c0 c1 s0 s2
      have HLD:Hid (∀W,Below w1.heap.size w1 W→W.cell? ⟨wo.heap.size,8,none⟩=some (.slice PB m pd)∧Below wo.heap.size wo W∧Below (G+1) W1 W):=fun W hW=>by
       have hB:=HB1.out.below hW HB1.out.lt;exact⟨(hB.cell 8).trans HC8.out,H1.out.2.1.trans (hW.mono (Nat.le_of_lt hlt1)),H1.out.1.trans (hW.mono om)⟩
      obtain⟨S0,hS0⟩:=ex9 (S++{ data:=#[114,111,117,116,101,32] }++XN++{ data:=#[32,61,32] });have HS0:Hid (S0=bytesOf T0):=hS0.trans HVS.out
      try rw[←hS0]
      clear hS0 HVS HC0 HC1 HC8 HCO HCL HOV zS zN;have d8:=(HLD.out w1 (Below.refl _ _)).1;go_wp2;clear d8
      go_loopg [3,6] m (fun kk v3 v6 wr=>∃(k:Nat) (S2:ByteArray),v6=.int .i64 k∧v3=.string S2∧S2=bytesOf (T0++sepB [32,62,32] ((ps.map prPl).take k))∧kk+k=m∧Hid (Below w1.heap.size w1 wr))
      case atStart=>exact⟨0,_,rfl,rfl,by rw[HS0.out];simp[sepB],by omega,qh (Below.refl _ _)⟩
      case round =>
       obtain⟨k,S2,rfl,rfl,hS2,hk2,HB2⟩:=hrel;obtain⟨d8,hbw2,_⟩:=HLD.out wr HB2.out;have zS2:S2.size≤1000000000:=by rw[hS2,sz_b,la9];have:=HSEP.out k om;omega
       have HS2:=qh hS2;clear hS2
       by_cases hkm:k<m
       · have hkl:k<ps.length:=by have:=HM.out;omega
         obtain⟨pb,po,pp,rfl,hpb,hpr,hpin⟩:=zet (HPI.out.keep (Keep.of_below hbw2 F)) k hkl;have hkk:(k:Int)<(m:Int):=om;have HQW:=qh (HPW.out k hkl);have HQI:=qh hpin;have HLK:=qh (HSEP.out (k+1) om);have HK1:=qh (HPS.out k hkl);have HK00:=HP0.out om;have hget:k=0→ps[0]'om=ps[k]:=fun h=>by subst h;rfl
         clear HPS HP0 HPW HPI hpin HSEP hbw2;generalize ps[k]=q at *
         have hbnd:(prPl q).length≤999999950:=by
          have h1:=HLK.out
          by_cases h0:k=0
          · subst h0;rw[HK00,hget rfl]at h1;omega
          · rw[HK1.out om]at h1;simp only[List.length_append]at h1;omega
         have HKV:Hid (sepB [32,62,32] ((ps.map prPl).take (k+1))=(if k=0 then [] else sepB [32,62,32] ((ps.map prPl).take k)++[32,62,32])++prPl q):=by
          show _=_
          by_cases h0:k=0
          · subst h0;rw[if_pos rfl,HK00,hget rfl];rfl
          · rw[if_neg h0,HK1.out om]
         clear HK1 HK00 hget HLK;have hpq:prPl q=tx q.node.name++prAt 64 q.delay++prAt 33 q.flags:=rfl;rw[hpq]at HKV hbnd;clear hpq;simp only[List.length_append]at hbnd
         obtain⟨base,HB0,HKB⟩:∃base,Hid (T0++sepB [32,62,32] ((ps.map prPl).take (k+1))=base++(tx q.node.name++prAt 64 q.delay++prAt 33 q.flags))∧((¬(0:Int)<(k:Int)∧Hid (S2=bytesOf base))∨((0:Int)<(k:Int)∧Hid (S2++{ data:=#[32,62,32] } = bytesOf base))):=by
          by_cases h0:k=0
          · refine⟨T0,?_,.inl ⟨by omega,?_⟩⟩
            · show _=_;rw[HKV.out,if_pos h0];rfl
            · show _=_;rw[HS2.out,h0];simp[sepB]
          · refine⟨T0++sepB [32,62,32] ((ps.map prPl).take k)++[32,62,32],?_,.inr ⟨by omega,?_⟩⟩
            · show _=_;rw[HKV.out,if_neg h0];simp[List.append_assoc]
            · show _=_;rw[HS2.out,show({ data:=#[32,62,32] } : ByteArray)=bytesOf [32,62,32] from rfl,zac]
         clear HKV HS2;have hat:∀(mm:UInt8) (e:Ex),e.op≠zs→prAt mm e=mm :: par (!(decide (e.op=k_number)|| decide (e.op=k_name))) (prE e):=fun mm e he=>by unfold prAt;rw[if_neg he]
         have hpar:∀(bb:Bool) (l:List UInt8),l.length≤(par bb l).length:=fun bb l=>by cases bb <;> simp[par] <;> omega
         have HXD:q.delay.op≠zs→Hid (RW wr 38 [.agg (exC q.delay pp.1).toArray] (bytesOf (par (!(decide (q.delay.op=k_number)|| decide (q.delay.op=k_name))) (prE q.delay)))):=fun he W hW=>ze7 (HQW.out.2.1.ok HTT.out) pp.1 (by have:=hat 64 q.delay he;rw[this,List.length_cons]at hbnd;have:=hpar (!(decide (q.delay.op=k_number)|| decide (q.delay.op=k_name))) (prE q.delay);omega) W (HQI.out.1.keep (Keep.of_below hW F))
         have HXF:q.flags.op≠zs→Hid (RW wr 38 [.agg (exC q.flags pp.2).toArray] (bytesOf (par (!(decide (q.flags.op=k_number)|| decide (q.flags.op=k_name))) (prE q.flags)))):=fun he W hW=>ze7 (HQW.out.2.2.ok HTT.out) pp.2 (by have:=hat 33 q.flags he;rw[this,List.length_cons]at hbnd;have:=hpar (!(decide (q.flags.op=k_number)|| decide (q.flags.op=k_name))) (prE q.flags);omega) W (HQI.out.2.keep (Keep.of_below hW F))
         obtain⟨EN,hEN⟩:=ex9 (q.node.name);have eEN:EN=bytesOf (tx q.node.name):=by rw[zbe];exact hEN
         have zEN:EN.size≤1000000000:=by rw[eEN,sz_b];omega
         have HCP:Hid (∀W,Below wr.heap.size wr W→W.rangeAt pb (po+k*12) (plC q pp)):=fun W hW j v hv=>(World.cell?_of_block (a:=⟨pb,po+k*12+j,none⟩) (hW.block pb hpb)).trans (hpr j v hv)
         have HP0:Hid ((plC q pp)[0]? = some (.string EN)):=by show _=_;rw[hEN];rfl
         have HP2:Hid ((plC q pp)[2]? = some (.string q.delay.op)):=rfl;have HP7:Hid ((plC q pp)[7]? = some (.string q.flags.op)):=rfl;obtain⟨CD,hCD⟩:=ex9 (exC q.delay pp.1);obtain⟨CF,hCF⟩:=ex9 (exC q.flags pp.2);have HKD:Hid (∀j v,CD[j]? = some v→(plC q pp)[2+j]? = some v):=by show ∀j v,_;rw[hCD];exact plC_d q pp
         have HKF:Hid (∀j v,CF[j]? = some v→(plC q pp)[7+j]? = some v):=by show ∀j v,_;rw[hCF];exact plC_f q pp
         have HLD5:Hid (CD.length=5∧CF.length=5):=by show _∧_;rw[hCD,hCF];exact⟨rfl,rfl⟩
         rw[←hCD]at HXD;rw[←hCF]at HXF;have zD:q.delay.op≠zs→(bytesOf (par (!(decide (q.delay.op=k_number)|| decide (q.delay.op=k_name))) (prE q.delay))).size≤1000000000:=fun he=>by have:=hat 64 q.delay he;rw[this,List.length_cons]at hbnd;rw[sz_b];omega
         have zF:q.flags.op≠zs→(bytesOf (par (!(decide (q.flags.op=k_number)|| decide (q.flags.op=k_name))) (prE q.flags))).size≤1000000000:=fun he=>by have:=hat 33 q.flags he;rw[this,List.length_cons]at hbnd;rw[sz_b];omega
         have HVD:(q.delay.op=zs→prAt 64 q.delay=[])∧(q.delay.op≠zs→bytesOf (prAt 64 q.delay) = { data:=#[64] }++bytesOf (par (!(decide (q.delay.op=k_number)|| decide (q.delay.op=k_name))) (prE q.delay))):=⟨fun h=>by unfold prAt;rw[if_pos h],fun h=>by rw[hat 64 _ h,show({ data:=#[64] } : ByteArray)=bytesOf [64] from rfl,zac];rfl⟩;have HVF:(q.flags.op=zs→prAt 33 q.flags=[])∧(q.flags.op≠zs→bytesOf (prAt 33 q.flags) = { data:=#[33] }++bytesOf (par (!(decide (q.flags.op=k_number)|| decide (q.flags.op=k_name))) (prE q.flags))):=⟨fun h=>by unfold prAt;rw[if_pos h],fun h=>by rw[hat 33 _ h,show({ data:=#[33] } : ByteArray)=bytesOf [33] from rfl,zac];rfl⟩;generalize bytesOf (par (!(decide (q.delay.op=k_number)|| decide (q.delay.op=k_name))) (prE q.delay))=XD at *;generalize bytesOf (par (!(decide (q.flags.op=k_number)|| decide (q.flags.op=k_name))) (prE q.flags))=XF at *;generalize prAt 64 q.delay=AD at *;generalize prAt 33 q.flags=AF at *;generalize q.delay.op=OD at *;generalize q.flags.op=OF at *;clear hat hpar hbnd HQW HQI hEN hCD hCF;generalize plC q pp=CP at *;have HW3:Hid (∀W,Below wr.heap.size wr W→Below w1.heap.size w1 W∧W.cell? ⟨wo.heap.size,8,none⟩=some (.slice (some ⟨pb,po,none⟩) m pd)):=fun W hW=>⟨HB2.out.trans (hW.mono HB2.out.size),(HLD.out W (HB2.out.trans (hW.mono HB2.out.size))).1⟩
         have p0:wr.cell? ⟨pb,po+k*12,none⟩=some (.string EN):=HCP.out wr (Below.refl _ _) 0 _ HP0.out;have p2:wr.cell? ⟨pb,po+k*12+2,none⟩=some (.string OD):=HCP.out wr (Below.refl _ _) 2 _ HP2.out;clear hpr;have HEN:=qh eEN;clear eEN;have p7:wr.cell? ⟨pb,po+k*12+7,none⟩=_:=HCP.out wr (Below.refl _ _) 7 _ HP7.out;have ld2:(ldAt 39 (.pointer (some ⟨pb,po+k*12+2,none⟩))).run Tryz.prog wr=.ok (.agg CD.toArray) wr:=run_loadAt_mid wr pb (po+k*12+2) 39 CD _ (by intro j v hv;have h1:=HCP.out wr (Below.refl _ _) (2+j) v (HKD.out j v hv);rw[←Nat.add_assoc]at h1;exact h1) Tryz.underlying39 rfl (by rw[HLD5.out.1];exact hdEx);have ld7:(ldAt 39 (.pointer (some ⟨pb,po+k*12+7,none⟩))).run Tryz.prog wr=.ok (.agg CF.toArray) wr:=run_loadAt_mid wr pb (po+k*12+7) 39 CF _ (by intro j v hv;have h1:=HCP.out wr (Below.refl _ _) (7+j) v (HKF.out j v hv);rw[←Nat.add_assoc]at h1;exact h1) Tryz.underlying39 rfl (by rw[HLD5.out.2];exact hdEx)
         rcases HKB with ⟨hk0,HE⟩|⟨hk0,HE⟩
         all_goals rcases Classical.em (OD=zs)with hd|hd
         all_goals (first|(have hvd:=qh (HVD.1 hd);subst hd;have hd:=trivial)| (have hvd:=qh (HVD.2 hd);have zd:=zD hd;have HXd:=HXD hd;have s1:(OD.toList == [])=false:=strl hd))
         all_goals rcases Classical.em (OF=zs)with hf|hf
         all_goals (first|(have hvf:=qh (HVF.1 hf);subst hf;have hf:=trivial)| (have hvf:=qh (HVF.2 hf);have zf:=zF hf;have HXf:=HXF hf;have s2:(OF.toList == [])=false:=strl hf))
         all_goals clear HVD HXD zD HVF HXF zF hd hf
         all_goals
           go_wp2_with (first
            | (go_at_call 38;(have hz:=ld2;clear hz);(refine(HXd.out _ (Below.refl _ _)).mono ?_);rintro r w3 ⟨rfl,hB3⟩;have H3:Hid (Below wr.heap.size wr w3):=hB3;have d8b:=(HW3.out w3 hB3).2;clear p7 ld7;have p7:w3.cell? ⟨pb,po+k*12+7,none⟩=_:=HCP.out w3 H3.out 7 _ HP7.out;have ld7:(ldAt 39 (.pointer (some ⟨pb,po+k*12+7,none⟩))).run Tryz.prog w3=.ok (.agg CF.toArray) w3:=run_loadAt_mid w3 pb (po+k*12+7) 39 CF _ (by intro j v hv;have h1:=HCP.out w3 H3.out (7+j) v (HKF.out j v hv);rw[←Nat.add_assoc]at h1;exact h1) Tryz.underlying39 rfl (by rw[HLD5.out.2];exact hdEx);clear hB3 ld2 d8 p0 p2)
            | (go_at_call 38;(refine(HXf.out _ (by first|exact H3.out|exact Below.refl _ _)).mono ?_);rintro r w4 ⟨rfl,hB4⟩;have H4:Hid (Below wr.heap.size wr w4):=(by first|exact H3.out.trans (hB4.mono H3.out.size)| exact hB4);clear hB4 ld7))
           go_roundg (m-(k+1))
           case measure=>omega
           case rel=>exact⟨k+1,_,by simp,rfl,by rw[HB0.out];simp only[←zac,hvd.out,hvf.out,←HEN.out,←HE.out,List.append_nil,ByteArray.append_assoc],by omega,qh (HW3.out _ (by first|exact H4.out|exact H3.out|exact Below.refl _ _)).1⟩
       · have hkk:¬(k:Int)<(m:Int):=om
         obtain rfl:k=m:=om;have HB9:Hid (Below (G+1) W1 wr):=(HLD.out wr HB2.out).2.2
         have HVV:Hid (S2++{ data:=#[59,10] } = bytesOf ((ds.take (i+1)).flatMap prDc)):=by
          show _=_
          rw[HVE.out,HS2.out,HPN.out,show({ data:=#[59,10] } : ByteArray)=bytesOf [59,10] from rfl,zac]
         clear HPS HP0 HPW HPI HSEP;go_wp2;go_roundg (n-(i+1))
         case measure=>omega
         case rel=>exact⟨i+1,_,by simp,rfl,by rw[←HVV.out],by omega,HB9⟩
  · have hii:¬(i:Int)<(n:Int):=om
    obtain rfl:i=n:=om;have HBI:=(HBX.out wo HB.out).2.2.2;have HBI2:=qh HBI
    have HVV:Hid (S++bytesOf (prSs bs 0)=bytesOf (ds.flatMap prDc++prSs bs 0)):=by
     show _=_
     rw[HS.out,HSN.out,zac]
    have HBQ:=qh (HBS.out wo HBI);generalize bytesOf (prSs bs 0)=SB at *;clear HDD HS1 HSL HXX HLB HBS HBI;have hgw:G≤wo.heap.size:=by have:=HB.out.size;have:=HSZ.out;omega
    go_wp2_with (go_at_call 39;(refine HBQ.out.mono ?_);rintro r w2 ⟨rfl,hB2⟩;have H2:Hid (Below G w w2):=HBI2.out.trans (hB2.mono hgw);clear hB2)
    go_ret;exact⟨by rw[←HVV.out];rfl,HGE.out _ H2.out⟩
end
end
section
section
variable{w w':World}
theorem ex_eql{P:Program}{w:World}{a:Act}{o:Oper}{t t':TypeId}{x y:Operand}{p:ByteArray}(ho:o.op=.binOp .eql t x y t')(hx:a.eval x=.string p)(hy:a.eval y=.string p):(execOp a.eval o).run P w=.ok (.value (.bool true)) w:=by
 unfold execOp
 simp[ho,hx,hy,eqGuard,binOp_string_eql]
theorem zgk{F:Nat→Prop}{ts:List Lx.Tok}(hT:TkOk ts):RsK F []:=zcf hT [] (fun _ h=>by simp at h) (fun _ h=>by simp at h) sy
theorem rsk_of{F:Nat→Prop}{ts:List Lx.Tok}(hT:TkOk ts){s:St}(h:WfS ts s):RsK F s.body∧RsK F s.els:=by
 induction h with
 | after at_ a y h1 hl hy ih=>exact⟨zcf hT y hy ih om,zgk hT⟩
 | repeat_ at_ n a y h1 h2 hl hy ih=>exact⟨zcf hT y hy ih om,zgk hT⟩
 | if_ at_ t y z h1 hl hm hy hz ihy ihz=>exact⟨zcf hT y hy ihy om,zcf hT z hz ihz om⟩
 | _=>exact⟨zgk hT,zgk hT⟩
theorem zgz(s:List UInt8){W:World}(A D:Option Addr)(ca cd:Nat)(hD:DcsIn (fun k=>k<W.heap.size) W D (parse s).1.decls)(hA:BodyIn (fun k=>k<W.heap.size) W A (parse s).1.body)(hT:Tab W.heap.size W):Calls Tryz.prog 12 #[.agg #[.slice D (parse s).1.decls.length cd,.slice A (parse s).1.body.length ca]] W fun r w'=>r=.returned (.string (bytesOf (prTop (parse s).1)))∧Below W.heap.size W w':=by
 obtain⟨ts,hTk,hd,hs,hdl,hbl,hl⟩:=zke s;exact zkz hTk _ hd om (fun x hx=>(hs x hx).1) om (zof fun x hx=>(hs x hx).2) A D ca cd W hD hA om (fun _ h=>h) hT
theorem zmp(s:List UInt8){F:Nat→Prop}{W:World}(A D:Option Addr)(ca cd:Nat)(hD:DcsIn F W D (parse s).1.decls)(hA:BodyIn F W A (parse s).1.body):Calls Tryz.prog 13 #[.agg #[.slice D (parse s).1.decls.length cd,.slice A (parse s).1.body.length ca]] W fun r w'=>r=.returned (.string (bytesOf (prTop (parse s).1)))∧Below W.heap.size W w':=by
 obtain⟨ts,hTk,hd,hs,hdl,hbl,hl⟩:=zke s;exact zk9 hTk _ hd om (zcf hTk _ (fun x hx=>(hs x hx).1) (fun x hx=>rsk_of hTk (hs x hx).1) om) A D ca cd W hD hA om
theorem prM:bytesOf (prTop ⟨[dcX],[stX]⟩)=txtM:=by kernel_rfl
theorem Tab.up(h:Tab w.heap.size w)(hW:Below w.heap.size w w'):Tab w'.heap.size w':=fun n W h0 h1 hB=>h n W h0 h1 (hW.trans (hB.mono hW.size))
theorem zog(w:World)(hT:Tab w.heap.size w):Calls Tryz.prog 8 #[] w fun e w'=>e=.returned (.bool true)∧Below w.heap.size w w':=by
 have HP:Hid (∀W,Calls Tryz.prog 9 #[.string srcM] W fun e w'=>∃D d gb ob cb,e=.returned (.tuple #[.agg #[.slice D 1 d,.slice (some ⟨gb,ob,none⟩) 1 cb],.agg #[.int .i64 0,.int .i64 0]])∧DcsIn (Fr W.heap.size) w' D [dcX]∧BodyIn (Fr W.heap.size) w' (some ⟨gb,ob,none⟩) [stX]∧w'.cell? ⟨gb,ob+1,none⟩=some (.int .i64 8)∧gb<w'.heap.size∧Below W.heap.size W w'):=fun W=>by
  have h:=zfb srcM W
  unfold PaK at h
  rw[parseM]at h;refine h.mono ?_;rintro e w' ⟨D,d,A,cb,rfl,hd,hb,hB⟩;obtain⟨gb,ob,p,rfl,hgb,hr,_⟩:=zdy hb 0 sy;exact⟨D,d,gb,ob,cb,rfl,hd,hb,(by have h1:w'.cell? ⟨gb,ob+0*26+1,none⟩=some (.int .i64 8):=hr 1 _ rfl;simpa using h1),hgb,hB⟩
 have HR:Hid (∀W A D ca cd,(Below w.heap.size w W∧DcsIn (fun k=>k<W.heap.size) W D [dcX]∧BodyIn (fun k=>k<W.heap.size) W A [stX])→Calls Tryz.prog 12 #[.agg #[.slice D 1 cd,.slice A 1 ca]] W fun r w'=>r=.returned (.string txtM)∧Below W.heap.size W w'):=fun W A D ca cd h=>by
  have h1:=zgz srcM.data.toList (W:=W) A D ca cd (by rw[parseM];exact h.2.1) (by rw[parseM];exact h.2.2) (hT.up h.1);rw[parseM,prM]at h1;exact h1
 clear hT
 go_enter Tryz.func8, Tryz.ntmps8
 go_wp2_with (first
  | (go_at_call 12;(refine(HR.out _ _ _ _ _ (by exact HX.out _ _)).mono ?_);rintro e w4 ⟨rfl,hB4⟩;have H4:Hid (Below w.heap.size w w4):=(HX.out _ _).1.trans (hB4.mono (HX.out _ _).1.size);clear hB4)
  | (go_at_call 9;(refine(HP.out _).mono ?_);rintro e w2 ⟨D,d,gb,ob,cb,rfl,hD,hY,x1,hgb,hB2⟩
     have HX:Hid (∀o o',Below w.heap.size w ((w2.alloc o).alloc o')∧DcsIn (fun k=>k<((w2.alloc o).alloc o').heap.size) ((w2.alloc o).alloc o') D [dcX]∧BodyIn (fun k=>k<((w2.alloc o).alloc o').heap.size) ((w2.alloc o).alloc o') (some ⟨gb,ob,none⟩) [stX]):=fun o o' =>
      ⟨zb7 hB2 hB2.size,(hD.keep (Keep.of_below (zb7 (Below.refl _ _) lr) _)).keep zkx,(hY.keep (Keep.of_below (zb7 (Below.refl _ _) lr) _)).keep zkx⟩
     clear hD hY hB2))
 go_ret;exact⟨rfl,H4.out⟩
theorem zc9(s:ByteArray)(w:World)(T0:(parse s.data.toList).1=⟨[],[]⟩)(F1 F2:Int)(h0:(parse s.data.toList).2=(F1,F2))(hF:F1≠0)(hT:Tab w.heap.size w):Calls Tryz.prog 6 #[.string s] w fun e w'=>e=.returned (.bool true)∧Below w.heap.size w w':=by
 have HA:=qh (zog w hT);have HQ:=qh (fun W=>zf2 s W);obtain⟨hdm,hbm⟩:=zkf s.data.toList
 have HO:Hid (∀W,Below w.heap.size w W→Calls Tryz.prog 14 #[.string s] W fun e w'=>∃B d A c,e=.returned (.tuple #[.agg #[.slice B (parse s.data.toList).1.decls.length d,.slice A (parse s.data.toList).1.body.length c,.string zs],.agg #[.int .i64 F1,.int .i64 F2]])∧DcsIn (Fr W.heap.size) w' B (parse s.data.toList).1.decls∧BodyIn (Fr W.heap.size) w' A (parse s.data.toList).1.body∧Below W.heap.size W w'):=fun W hW=>by
  rw[T0];exact(zom s F1 F2 (by rw[←T0,←h0]) hF W).mono fun e w' h=>⟨none,0,none,0,h.1,DcsIn.nil _ _ _,BodyIn.nil _ _ _,h.2⟩
 have hpn:(F1 != 0)=true:=by rw[bne_iff_ne];exact hF
 clear hT
 unfold RPaK at HQ
 rw[h0]at HQ;have HS:=qh (fun(F G:Nat→Prop) (A B C D:Option Addr) (a b c d:Nat) (W:World) hA hB hC hD=>zqu (F:=F) (G:=G) (parse s.data.toList).1 hdm hbm A B C D a b c d W hA hB hC hD);clear hdm hbm h0 hF T0;generalize (parse s.data.toList).1=T at *;generalize hn:T.decls.length=n at *;generalize hm:T.body.length=m at *
 go_enter Tryz.func6, Tryz.ntmps6
 go_upto_region 5 with (first
  | (go_at_call 10;(refine(HQ.out _).mono ?_);rintro e w3 ⟨B',d',A',c',rfl,hD3,hY3,hB3⟩;have H3:=qh (And.intro hB3 (And.intro hD3 hY3));clear hD3 hY3 hB3)
  | (go_at_call 14;(refine(HO.out _ H1.out).mono ?_);rintro e w2 ⟨B,d,A,c,rfl,hD2,hY2,hB2⟩;have H2:=qh (And.intro (H1.out.trans (hB2.mono H1.out.size)) (And.intro hD2 hY2));clear hD2 hY2 hB2)
  | (go_at_call 8;(refine HA.out.mono ?_);rintro e w1 ⟨rfl,hB1⟩;have H1:=qh hB1;clear hB1))
 have HW:Hid (∀W,W=(w3.alloc (.cells #[.slice B' n d',.slice A' m c'] 26)).alloc (.cells #[.int .i64 F1,.int .i64 F2] 29)→Below w.heap.size w W∧Blk W w2.heap.size 48 [.slice B n d,.slice A m c,.string zs]∧Blk W (w2.heap.size+1) 29 [.int .i64 F1,.int .i64 F2]∧Blk W w3.heap.size 26 [.slice B' n d',.slice A' m c']∧Blk W (w3.heap.size+1) 29 [.int .i64 F1,.int .i64 F2]∧DcsIn (Fr 0) W B T.decls∧BodyIn (Fr 0) W A T.body∧DcsIn (Fr 0) W B' T.decls∧BodyIn (Fr 0) W A' T.body):=by
  rintro W rfl;obtain⟨h1,h2,h3⟩:=H2.out;obtain⟨k1,k2,k3⟩:=H3.out;have e1:∀o o',((w2.alloc o).alloc o').heap.size=w2.heap.size+2:=fun _ _=>by simp
  rw[e1]at k1 k2 k3;have hb2:∀o o',Below w2.heap.size w2 ((w2.alloc o).alloc o'):=fun o o'=>zb7 (Below.refl _ _) lr
  have hb3:∀o o',Below w3.heap.size w3 ((w3.alloc o).alloc o'):=fun o o'=>zb7 (Below.refl _ _) lr
  have hsz:=k1.size;rw[e1]at hsz;have hW2:Below w2.heap.size w2 w3:=(hb2 _ _).trans (k1.mono om);have hup:∀g,Keep (Fr g) (Fr 0) w2 w2:=fun g=>⟨lr,fun _ _ _=>rfl,fun _ _ _=>Nat.zero_le _⟩
  have hup3:∀g,Keep (Fr g) (Fr 0) w3 w3:=fun g=>⟨lr,fun _ _ _=>rfl,fun _ _ _=>Nat.zero_le _⟩
  refine⟨h1.trans ((hW2.mono h1.size).trans ((hb3 _ _).mono (Nat.le_trans h1.size hW2.size))),(((Blk.new w2 _ _).alloc _).below k1 om).alloc _ |>.alloc _,((Blk.new' sy rfl).below k1 om).alloc _ |>.alloc _,(Blk.new _ _ _).alloc _,Blk.new' sy rfl,?_,?_,?_,?_⟩
  · exact((h2.keep (hup _)).keep (Keep.of_below hW2 _)).keep (Keep.of_below (hb3 _ _) _)
  · exact((h3.keep (hup _)).keep (Keep.of_below hW2 _)).keep (Keep.of_below (hb3 _ _) _)
  · exact(k2.keep (hup3 _)).keep (Keep.of_below (hb3 _ _) _)
  · exact(k3.keep (hup3 _)).keep (Keep.of_below (hb3 _ _) _)
 obtain⟨w4,hw4⟩:=ex9 ((w3.alloc (.cells #[.slice B' n d',.slice A' m c'] 26)).alloc (.cells #[.int .i64 F1,.int .i64 F2] 29));have H4:=qh (HW.out w4 hw4);rw[←hw4];clear hw4 HW;obtain⟨gD,hgD⟩:=ex9 (w2.heap.size);obtain⟨gS,hgS⟩:=ex9 (w3.heap.size);rw[←hgD,←hgS]at H4 ⊢;clear H1 H2 H3 HA HO HQ hgD hgS;have HC:Hid (∀W,Below w4.heap.size w4 W→Blk W gD 48 [.slice B n d,.slice A m c,.string zs]∧Blk W (gD+1) 29 [.int .i64 F1,.int .i64 F2]∧Blk W gS 26 [.slice B' n d',.slice A' m c']∧Blk W (gS+1) 29 [.int .i64 F1,.int .i64 F2]):=fun W hW=>⟨H4.out.2.1.below hW H4.out.2.1.lt,H4.out.2.2.1.below hW H4.out.2.2.1.lt,H4.out.2.2.2.1.below hW H4.out.2.2.2.1.lt,H4.out.2.2.2.2.1.below hW H4.out.2.2.2.2.1.lt⟩
 have HSM:=qh (HS.out _ _ B A B' A' d c d' c' w4 H4.out.2.2.2.2.2.1 H4.out.2.2.2.2.2.2.1 H4.out.2.2.2.2.2.2.2.1 H4.out.2.2.2.2.2.2.2.2);clear HS;have n0:w4.cell? ⟨gD,0,none⟩=some (.slice B n d):=H4.out.2.1.cell 0;have n1:w4.cell? ⟨gD,1,none⟩=some (.slice A m c):=H4.out.2.1.cell 1;have nl:=H4.out.2.1.lt;have m0:w4.cell? ⟨gD+1,0,none⟩=some (.int .i64 F1):=H4.out.2.2.1.cell 0;have m1:w4.cell? ⟨gD+1,1,none⟩=some (.int .i64 F2):=H4.out.2.2.1.cell 1;have q0:w4.cell? ⟨gS,0,none⟩=some (.slice B' n d'):=H4.out.2.2.2.1.cell 0;have q1:w4.cell? ⟨gS,1,none⟩=some (.slice A' m c'):=H4.out.2.2.2.1.cell 1;have r0:w4.cell? ⟨gS+1,0,none⟩=some (.int .i64 F1):=H4.out.2.2.2.2.1.cell 0;have r1:w4.cell? ⟨gS+1,1,none⟩=some (.int .i64 F2):=H4.out.2.2.2.2.1.cell 1
 go_wp2_with (first
  | (go_at_call 11;(refine HSM.out.mono ?_);rintro e w5 ⟨rfl,hB5⟩;have H5:Hid (Below w4.heap.size w4 w5):=hB5;have a0:w5.cell? ⟨gD,0,none⟩=some (.slice B n d):=(HC.out w5 hB5).1.cell 0;have a1:w5.cell? ⟨gD,1,none⟩=some (.slice A m c):=(HC.out w5 hB5).1.cell 1;have a2:w5.cell? ⟨gD,2,none⟩=some (.string zs):=(HC.out w5 hB5).1.cell 2;have b0:w5.cell? ⟨gS,0,none⟩=some (.slice B' n d'):=(HC.out w5 hB5).2.2.1.cell 0;have b1:w5.cell? ⟨gS,1,none⟩=some (.slice A' m c'):=(HC.out w5 hB5).2.2.1.cell 1;have x0:w5.cell? ⟨gS+1,0,none⟩=some (.int .i64 F1):=(HC.out w5 hB5).2.2.2.cell 0;clear hB5 n0 n1 m0 m1 q0 q1 r0 r1))
 go_ret;exact⟨rfl,H4.out.1.trans (H5.out.mono H4.out.1.size)⟩
theorem zgy(s:ByteArray)(w:World)(h0:(parse s.data.toList).2=(0,0))(hT:Tab w.heap.size w):Calls Tryz.prog 6 #[.string s] w fun e w'=>e=.returned (.bool true)∧Below w.heap.size w w':=by
 have HA:=qh (zog w hT);have HQ:=qh (fun W=>zf2 s W);obtain⟨hdm,hbm⟩:=zkf s.data.toList
 have HO:Hid (∀W,Below w.heap.size w W→Calls Tryz.prog 14 #[.string s] W fun e w'=>∃B d A c,e=.returned (.tuple #[.agg #[.slice B (parse s.data.toList).1.decls.length d,.slice A (parse s.data.toList).1.body.length c,.string (bytesOf (prTop (parse s.data.toList).1))],.agg #[.int .i64 0,.int .i64 0]])∧DcsIn (Fr W.heap.size) w' B (parse s.data.toList).1.decls∧BodyIn (Fr W.heap.size) w' A (parse s.data.toList).1.body∧Below W.heap.size W w'):=fun W hW =>
  zol s (parse s.data.toList).1 (by rw[←h0]) W fun W' A D ca cd hW' h1 h2=>zgz s.data.toList A D ca cd h1 h2 (hT.up (hW.trans (hW'.mono hW.size)))
 have HRP:Hid (∀(F:Nat→Prop) W A D ca cd,DcsIn F W D (parse s.data.toList).1.decls→BodyIn F W A (parse s.data.toList).1.body→Calls Tryz.prog 13 #[.agg #[.slice D (parse s.data.toList).1.decls.length cd,.slice A (parse s.data.toList).1.body.length ca]] W fun r w'=>r=.returned (.string (bytesOf (prTop (parse s.data.toList).1)))∧Below W.heap.size W w'):=fun F W A D ca cd h1 h2=>zmp s.data.toList A D ca cd h1 h2
 clear hT
 unfold RPaK at HQ
 rw[h0]at HQ;have HS:=qh (fun(F G:Nat→Prop) (A B C D:Option Addr) (a b c d:Nat) (W:World) hA hB hC hD=>zqu (F:=F) (G:=G) (parse s.data.toList).1 hdm hbm A B C D a b c d W hA hB hC hD);clear hdm hbm h0;generalize (parse s.data.toList).1=T at *;generalize hX:bytesOf (prTop T)=X at *;generalize hn:T.decls.length=n at *;generalize hm:T.body.length=m at *
 go_enter Tryz.func6, Tryz.ntmps6
 go_upto_region 5 with (first
  | (go_at_call 10;(refine(HQ.out _).mono ?_);rintro e w3 ⟨B',d',A',c',rfl,hD3,hY3,hB3⟩;have H3:=qh (And.intro hB3 (And.intro hD3 hY3));clear hD3 hY3 hB3)
  | (go_at_call 14;(refine(HO.out _ H1.out).mono ?_);rintro e w2 ⟨B,d,A,c,rfl,hD2,hY2,hB2⟩;have H2:=qh (And.intro (H1.out.trans (hB2.mono H1.out.size)) (And.intro hD2 hY2));clear hD2 hY2 hB2)
  | (go_at_call 8;(refine HA.out.mono ?_);rintro e w1 ⟨rfl,hB1⟩;have H1:=qh hB1;clear hB1))
 have HW:Hid (∀W,W=(w3.alloc (.cells #[.slice B' n d',.slice A' m c'] 26)).alloc (.cells #[.int .i64 0,.int .i64 0] 29)→Below w.heap.size w W∧Blk W w2.heap.size 48 [.slice B n d,.slice A m c,.string X]∧Blk W (w2.heap.size+1) 29 [.int .i64 0,.int .i64 0]∧Blk W w3.heap.size 26 [.slice B' n d',.slice A' m c']∧Blk W (w3.heap.size+1) 29 [.int .i64 0,.int .i64 0]∧DcsIn (Fr 0) W B T.decls∧BodyIn (Fr 0) W A T.body∧DcsIn (Fr 0) W B' T.decls∧BodyIn (Fr 0) W A' T.body):=by
  rintro W rfl;obtain⟨h1,h2,h3⟩:=H2.out;obtain⟨k1,k2,k3⟩:=H3.out;have e1:∀o o',((w2.alloc o).alloc o').heap.size=w2.heap.size+2:=fun _ _=>by simp
  rw[e1]at k1 k2 k3;have hb2:∀o o',Below w2.heap.size w2 ((w2.alloc o).alloc o'):=fun o o'=>zb7 (Below.refl _ _) lr
  have hb3:∀o o',Below w3.heap.size w3 ((w3.alloc o).alloc o'):=fun o o'=>zb7 (Below.refl _ _) lr
  have hsz:=k1.size;rw[e1]at hsz;have hW2:Below w2.heap.size w2 w3:=(hb2 _ _).trans (k1.mono om);have hup:∀g,Keep (Fr g) (Fr 0) w2 w2:=fun g=>⟨lr,fun _ _ _=>rfl,fun _ _ _=>Nat.zero_le _⟩
  have hup3:∀g,Keep (Fr g) (Fr 0) w3 w3:=fun g=>⟨lr,fun _ _ _=>rfl,fun _ _ _=>Nat.zero_le _⟩
  refine⟨h1.trans ((hW2.mono h1.size).trans ((hb3 _ _).mono (Nat.le_trans h1.size hW2.size))),(((Blk.new w2 _ _).alloc _).below k1 om).alloc _ |>.alloc _,((Blk.new' sy rfl).below k1 om).alloc _ |>.alloc _,(Blk.new _ _ _).alloc _,Blk.new' sy rfl,?_,?_,?_,?_⟩
  · exact((h2.keep (hup _)).keep (Keep.of_below hW2 _)).keep (Keep.of_below (hb3 _ _) _)
  · exact((h3.keep (hup _)).keep (Keep.of_below hW2 _)).keep (Keep.of_below (hb3 _ _) _)
  · exact(k2.keep (hup3 _)).keep (Keep.of_below (hb3 _ _) _)
  · exact(k3.keep (hup3 _)).keep (Keep.of_below (hb3 _ _) _)
 obtain⟨w4,hw4⟩:=ex9 ((w3.alloc (.cells #[.slice B' n d',.slice A' m c'] 26)).alloc (.cells #[.int .i64 0,.int .i64 0] 29));have H4:=qh (HW.out w4 hw4);rw[←hw4];clear hw4 HW;obtain⟨gD,hgD⟩:=ex9 (w2.heap.size);obtain⟨gS,hgS⟩:=ex9 (w3.heap.size);rw[←hgD,←hgS]at H4 ⊢;clear H1 H2 H3 HA HO HQ hgD hgS;have HC:Hid (∀W,Below w4.heap.size w4 W→Blk W gD 48 [.slice B n d,.slice A m c,.string X]∧Blk W (gD+1) 29 [.int .i64 0,.int .i64 0]∧Blk W gS 26 [.slice B' n d',.slice A' m c']∧Blk W (gS+1) 29 [.int .i64 0,.int .i64 0]):=fun W hW=>⟨H4.out.2.1.below hW H4.out.2.1.lt,H4.out.2.2.1.below hW H4.out.2.2.1.lt,H4.out.2.2.2.1.below hW H4.out.2.2.2.1.lt,H4.out.2.2.2.2.1.below hW H4.out.2.2.2.2.1.lt⟩
 have HSM:=qh (HS.out _ _ B A B' A' d c d' c' w4 H4.out.2.2.2.2.2.1 H4.out.2.2.2.2.2.2.1 H4.out.2.2.2.2.2.2.2.1 H4.out.2.2.2.2.2.2.2.2);clear HS;have n0:w4.cell? ⟨gD,0,none⟩=some (.slice B n d):=H4.out.2.1.cell 0;have n1:w4.cell? ⟨gD,1,none⟩=some (.slice A m c):=H4.out.2.1.cell 1;have nl:=H4.out.2.1.lt;have m0:w4.cell? ⟨gD+1,0,none⟩=some (.int .i64 0):=H4.out.2.2.1.cell 0;have m1:w4.cell? ⟨gD+1,1,none⟩=some (.int .i64 0):=H4.out.2.2.1.cell 1;have q0:w4.cell? ⟨gS,0,none⟩=some (.slice B' n d'):=H4.out.2.2.2.1.cell 0;have q1:w4.cell? ⟨gS,1,none⟩=some (.slice A' m c'):=H4.out.2.2.2.1.cell 1;have r0:w4.cell? ⟨gS+1,0,none⟩=some (.int .i64 0):=H4.out.2.2.2.2.1.cell 0;have r1:w4.cell? ⟨gS+1,1,none⟩=some (.int .i64 0):=H4.out.2.2.2.2.1.cell 1
 go_upto_region 9 with (first
  | (go_at_call 11;(refine HSM.out.mono ?_);rintro e w5 ⟨rfl,hB5⟩;have H5:Hid (Below w4.heap.size w4 w5):=hB5;have a0:w5.cell? ⟨gD,0,none⟩=some (.slice B n d):=(HC.out w5 hB5).1.cell 0;have a1:w5.cell? ⟨gD,1,none⟩=some (.slice A m c):=(HC.out w5 hB5).1.cell 1;have a2:w5.cell? ⟨gD,2,none⟩=some (.string X):=(HC.out w5 hB5).1.cell 2;have b0:w5.cell? ⟨gS,0,none⟩=some (.slice B' n d'):=(HC.out w5 hB5).2.2.1.cell 0;have b1:w5.cell? ⟨gS,1,none⟩=some (.slice A' m c'):=(HC.out w5 hB5).2.2.1.cell 1;have x0:w5.cell? ⟨gS+1,0,none⟩=some (.int .i64 0):=(HC.out w5 hB5).2.2.2.cell 0;clear hB5 n0 n1 m0 m1 q0 q1 r0 r1))
 clear a0 a1 a2 b0 b1 x0;have hT:Below w5.heap.size w5 w5.drew:=Below.drew (Below.refl _ _)
 have HLD:Hid (∀W,Below w5.heap.size w5 W→W.cell? ⟨gD,2,none⟩=some (.string X)∧W.rangeAt gS 0 [.slice B' n d',.slice A' m c']∧Below w.heap.size w W):=fun W hW=>by
  have hB:=H5.out.trans (hW.mono H5.out.size);exact⟨(HC.out W hB).1.cell 2,(HC.out W hB).2.2.1.range,H4.out.1.trans (hB.mono H4.out.1.size)⟩
 have HPC:Hid (∀W,Below w5.heap.size w5 W→Calls Tryz.prog 13 #[.agg #[.slice B' n d',.slice A' m c']] W fun r w'=>r=.returned (.string X)∧Below W.heap.size W w'):=fun W hW =>
  HRP.out _ W A' B' c' d' ((H4.out.2.2.2.2.2.2.2.1.keep (Keep.of_below H5.out _)).keep (Keep.of_below hW _)) ((H4.out.2.2.2.2.2.2.2.2.keep (Keep.of_below H5.out _)).keep (Keep.of_below hW _))
 clear HRP HSM;refine kgo kr 5 (fun W=>Below w5.heap.size w5 W) hT (fun _ _ _ _ _ h=>h) ?_;refine kp 0 (.pointer (some ⟨gD,2,none⟩)) rfl kr (fun _=>kr) ?_;refine kl 1 (.string X) rfl kr (fun w' hw'=>zaq (t:=9) (x:=.tmp 55) rr kr agStr (HLD.out w' hw').1) ?_;refine kl 2 (.agg #[.slice B' n d',.slice A' m c']) rfl kr (fun w' hw'=>zak rfl kr (run_loadAt_mid w' gS 0 26 [.slice B' n d',.slice A' m c'] _ (HLD.out w' hw').2.1 Tryz.underlying26 rfl hdSr)) ?_;intro q8 q9;clear q8 q9;refine AnyK.enter 3 (d:=some 58) (f:=13) (args:=#[.agg #[.slice B' n d',.slice A' m c']]) rr kr kr ?_;refine(HPC.out _ hT).mono ?_;rintro r w6 ⟨rfl,hB6⟩;have hT6:Below w5.heap.size w5 w6:=hT.trans hB6;refine⟨_,rfl,fun _=>hT6,?_⟩;refine AnyK.val 4 (v:=.bool true) rr kr rfl (ex_eql (p:=X) rr kr kr) (fun _=>hT6) ?_;refine AnyK.val 5 (v:=.bool true) rr kr rfl kr (fun h=>(by cases h)) ?_;have HB9:Hid (Below w.heap.size w w6):=(HLD.out _ hT6).2.2;refine AnyK.done ?_ ?_
 · kernel_rfl
 clear HLD HPC hT hT6 hB6 HC;simp only[List.getElem_toArray,List.getElem_cons_zero,List.getElem_cons_succ,Act.put,List.setIfInBounds_toArray,List.set_cons_succ,List.set_cons_zero];go_wp2;go_ret;exact⟨rfl,HB9.out⟩
theorem treeOpens_w(s:ByteArray)(w:World)(hT:Tab w.heap.size w):Calls Tryz.prog 6 #[.string s] w fun e w'=>e=.returned (.bool true)∧Below w.heap.size w w':=by
 rcases zn4 s.data.toList with h|⟨h1,h⟩
 · exact zgy s w h hT
 · rcases h with ⟨h2,_⟩|⟨q,h2|h2,_⟩
   · exact zc9 s w h1 _ _ h2 (by decide) hT
   · exact zc9 s w h1 _ _ h2 (by decide) hT
   · exact zc9 s w h1 _ _ h2 (by decide) hT
end
end
end Go.Proofs.YtafjkbbiaopemaaGreatDoor.Tr
namespace Go.Proofs.YtafjkbbiaopemaaGreatDoor.treeOpens
open Go.RowKit
section
open Go.ChangeShapes Go.WideShapes Go.ChangeAt Go.RowKit
open Go.ChangeMaps (open_string shut_string)
set_option linter.unusedVariables false
noncomputable def lst:List (String × DataW Unit):=[("math/bits.deBruijn32tab",Rows.laid_math_bits_deBruijn32tab),("math/bits.deBruijn64tab",Rows.laid_math_bits_deBruijn64tab),("internal/strconv.uint64pow10",Rows.laid_internal_strconv_uint64pow10)]
theorem zqe(os:Os)(args:Array Value):laidMetH Tryz.prog lst ((World.doorLaid Tryz.prog 24 os).forCall (fun _ _=>0) ⟨#[],args,[]⟩).memory :=
 laidMetH_of_parts (laidMet_of_run' 65 kr kr) kr
theorem zrc{W:World}(h:laidMetH Tryz.prog lst W):Lib.TabIs Tryz.prog W "internal/strconv.uint64pow10" .u64 Lib.pow10Tab:=by
 have h1:=h.filter (fun x=>decide (x.1 = "internal/strconv.uint64pow10"))
 rw[show(lst.filter fun x=>decide (x.1 = "internal/strconv.uint64pow10"))=[("internal/strconv.uint64pow10",Lib.tabData .u64 Lib.pow10Tab)] by rfl,Go.MakeChecks.laidMetH_plain _ _ _ rr]at h1
 exact Lib.tabIs_of_head (n:=20) (e:=159) (g:=(Tryz.prog.globalNamed "internal/strconv.uint64pow10").getD 0) kr rfl kr kr kr kr h1
theorem lifted(os:Os)(started:os.Started)(H:Type)(enc:TypeId × Value→H):
 ReturnsInHanded {} Tryz.checked os 6 .any (fun w args=>(Rows.treeOpensSpec.pre enc Tryz.prog Tryz.f6 [] false w args∧laidMetH Tryz.prog lst w)∧sizedMet enc Tryz.prog Tryz.f6 (OpenSpec.ofChange Rows.treeOpensSpec) false w args)
   (Rows.treeOpensSpec.post enc Tryz.prog Tryz.f6 false true false false):=by
 refine returnsInHanded_of_change_and (C:=Tryz.checked) (X:=fun w _=>laidMetH Tryz.prog lst w) (fun _ _ _ hh h=>h.of_heap hh) own started kr Tryz.func6
   (ChangeSpec.witness_shaped (enc:=enc) (C:=Tryz.checked) (os:=os) (X:=fun w _=>laidMetH Tryz.prog lst w) false (World.doorLaid Tryz.prog 24 os) #[.string { data:=#[] }] 8 rfl (World.shaped_of_RefB kr kr) kr kr kr (zqe os _)) ?_
 intro W base args ds gs before hval0 hW _ hsz0 q1 q2;have hlaid:laidMetH Tryz.prog lst W:=by first|exact q1|exact q2
 have hval:∀(j:Nat) t v,Tryz.f6.params[j]? = some t→args[j]? = some v→Value.okWide Tryz.prog W .any base t v:=hval0;have hsz:(DataW.weightsEach Tryz.prog (Tryz.f6.params.toList++Rows.treeOpensSpec.plain.varTypes Tryz.prog) (ds++gs)).all (·≤reachBytes)=true:=hsz0;have hW':=hW;obtain⟨p,q,hA0,hV,rfl,hfz,hnd⟩:=hW;have hA:DataW.TrodAll enc Tryz.prog W 0 (fun _=>true) true Tryz.f6.params.toList args.toList ds p:=hA0;rw[Tryz.params6]at hA hval hsz;obtain⟨v0,vs0,d0,ds0,p0,q0,hargs,rfl,rfl,h0,r0⟩:=trodAll_cons hA;obtain⟨rfl,rfl,rfl⟩:=trodAll_nil r0;obtain rfl:args=#[v0]:=by cases args;simp_all
 obtain⟨rfl,rfl⟩:=trodVars_none hV;obtain⟨s0,rfl,rfl,rfl,_⟩:=open_string Tryz.underlying9 (hval 0 9 v0 rfl rfl) h0;have k0:=h0;have lt0:∀x∈([]:List MemPlace),x.block<W.heap.size:=fun x hx=>by cases hx
 clear hA0 hval0;refine(Tr.treeOpens_w s0 W (Tr.tab_of (zrc hlaid))).mono fun e W' ⟨he,bel⟩=>?_
 subst he;exact⟨_,rfl,_,_,_,[],_,[],hW',trodAll_mk1 (shut_bool Tryz.underlying4 _),(trodAll_cons_mk (Below.trod laidOut kr (of_decide_eq_true kr) k0 bel lt0) trodAll_mk0),rfl,bel.frame _,fun h=>by cases h⟩
theorem over:Rows.treeOpensRow.holds Tryz.pinned (OpenSpec.ofChange Rows.treeOpensSpec) :=
 OpenClaim.holds_of_wide 6 Tryz.f6 rfl rfl rfl rfl rfl rfl rfl ⟨rfl,rfl,rfl,rfl,rfl⟩ rfl rfl rfl rfl rfl kr Tryz.func6 kr
   (of_decide_eq_true kr) (by unfold Func.isWrapper;first|(rw[if_pos (by decide +kernel)];kernel_rfl)| (rw[if_neg (by decide +kernel)];exact⟨rfl,rfl⟩))
   (fun os started H enc _=>lifted os started H enc)
theorem card:Rows.TreeOpensCardSaid :=
 Claim7.holds_tied_plain_at .later [] [.data,.data,.data] true (true,"4698a40335d6db5cd93e67fa4c54c93c99b7f9c93088d6c4b341a6a6b11f3b45") false
   over (fun _ h=>by cases h) kr (fun _ h=>by cases h) treeOpens_row_tie rfl ⟨rfl,rfl⟩ kr rfl
   (fun f fn hf hfn=>by
    obtain rfl:f=6:=Option.some.inj ((show Tryz.prog.funcNamed "shallot/shallotlaw22.TreeOpens" = some 6 by kernel_rfl).symm.trans hf)|>.symm
    obtain rfl:fn=Tryz.f6:=(Option.some.inj (Tryz.func6.symm.trans hfn)).symm
    exact⟨by kernel_rfl,fun j t ht=>by
     rw[Tryz.params6]at ht;have hm:t∈[9]:=by simpa using Array.mem_of_getElem? ht
     have hall:([9].all fun u=>!Tryz.prog.wantsStandIn u)=true:=by kernel_rfl
     exact(show Tryz.prog.wantsStandIn t=false by simpa using List.all_eq_true.1 hall t hm)⟩)
   kr
theorem proved:Rows.TreeOpensCardSaid:=card
end
end Go.Proofs.YtafjkbbiaopemaaGreatDoor.treeOpens
