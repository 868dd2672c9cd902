/- Part of the proof. -/
import Derived.Test.YtafjkbbiaopemaaGreatDoorBax39
import Derived.Test.YtafjkbbiaopemaaGreatDoorBax41
set_option linter.all false
set_option maxRecDepth 100000
set_option maxHeartbeats 0
namespace Go.Proofs.YtafjkbbiaopemaaGreatDoor.Tr
open Go.RowKit
section
section
variable{w w':World}
theorem zc0{F:Nat→Prop}(A:Option Addr)(l:List Rf)(n ca:Nat)(hn:l.length=n)(hn8:n≤2000000)(w:World)(hA:RfsIn F w A l)(hl:(prR l).length+10≤1000000000000000):Calls Tryz.prog 102 #[.slice A n ca] w fun r w'=>r=.returned (.string (bytesOf (prR l)))∧Below w.heap.size w w':=by
 have HA:=qh hA;have HN:=qh hn
 have HSL:Hid (∀i,i≤n→(bytesOf (sepB [44,32] ((l.map fun r=>tx r.name).take i))).size≤1000000000000000):=fun i hi=>by
  have h1:=zd0 [44,32] (l.map fun r=>tx r.name) (n-i) i (by simp;omega);rw[sz_b]
  unfold prR at hl
  omega
 have hpi:∀i (hi:i<l.length),(l.map fun r=>tx r.name)[i]? = some (tx l[i].name):=fun i hi=>by rw[List.getElem?_map,ge9 hi];rfl
 have HS1:Hid (∀i (hi:i<l.length),0<i→sepB [44,32] ((l.map fun r=>tx r.name).take (i+1))=sepB [44,32] ((l.map fun r=>tx r.name).take i)++[44,32]++tx l[i].name):=fun i hi h0=>zb4 h0 (hpi i hi)
 have HS0:Hid (∀(hi:0<l.length),sepB [44,32] ((l.map fun r=>tx r.name).take 1)=tx l[0].name):=fun hi=>zdc (hpi 0 hi)
 have HSN:Hid (sepB [44,32] ((l.map fun r=>tx r.name).take n)=prR l):=(by show _=_;rw[tk (by simp;omega)];rfl);clear hA hn hl hpi;have hn9:(n:Int)≤2000000:=om
 go_enter Tryz.func102, Tryz.ntmps102
 go_wp2
 go_loopg [3,4] n (fun kk v3 v4 wr=>∃(i:Nat) (S:ByteArray),v4=.int .i64 i∧v3=.string S∧S=bytesOf (sepB [44,32] ((l.map fun r=>tx r.name).take i))∧kk+i=n∧Hid (Below w.heap.size w wr))
 case atStart=>exact⟨0,_,rfl,rfl,rfl,rfl,qh (Below.refl _ _)⟩
 case round =>
  obtain⟨i,S,rfl,rfl,hS,hk,HB⟩:=hrel;have hSz:S.size≤1000000000000000:=by rw[hS];exact HSL.out i om
  have HS:=qh hS;clear hS
  by_cases hi:i<n
  · have hil:i<l.length:=by have:=HN.out;omega
    obtain⟨b1,o1,rfl,hb1,x1,y1⟩:=zc1 (HA.out.keep (Keep.of_below HB.out F)) i hil;have hii:(i:Int)<(n:Int):=om;have HSI:=qh (HS1.out i hil);have HS00:=HS0.out om;have hget:i=0→l[0]'om=l[i]:=fun h=>by subst h;rfl
    obtain⟨E,hE⟩:=ex9 (l[i].name)
    have hEz:E.size≤1000000000000000:=by
     have h1:=HSL.out (i+1) hi;rw[sz_b]at h1;have h2:E.size=(tx l[i].name).length:=by rw[hE];rfl
     by_cases h0:i=0
     · subst h0
       rw[HS0.out hil]at h1;omega
     · rw[HS1.out i hil om]at h1
       simp only[List.length_append]at h1;omega
    rw[←hE]at x1;have HE:=qh hE;clear hE y1 HS0 HS1 HSL
    by_cases h0:i=0
    · have HE1:Hid (sepB [44,32] ((l.map fun r=>tx r.name).take 1)=tx E):=HS00.trans (by rw[hget h0,HE.out])
      clear HS00 hget HE;subst h0;simp only[Nat.zero_mul,Nat.add_zero]at x1;go_wp2;go_roundg (n-1)
      case measure=>omega
      case rel=>exact⟨1,_,by simp,rfl,by rw[HE1.out,HS.out,zaz];simp[sepB,zhm];exact zap E,by omega,HB⟩
    · have hi0:(0:Int)<(i:Int):=om
      clear HS00 hget;go_wp2;go_roundg (n-(i+1))
      case measure=>omega
      case rel=>exact⟨i+1,_,by simp,rfl,by rw[HSI.out om,HS.out,←zab,←zab,←HE.out,zaz];rfl,by omega,HB⟩
  · have hii:¬(i:Int)<(n:Int):=om
    obtain rfl:i=n:=om;clear HS0 HS1 HSL;go_wp2;go_ret;exact⟨by rw[HS.out,HSN.out];rfl,HB.out⟩
theorem zd5(T:ByteArray)(hT:T.size≤100)(r:Rf)(hr:(tx r.name).length≤1000000000000000)(w:World):Calls Tryz.prog 103 #[.string T,.agg #[.string r.name,.int .i64 r.at_]] w fun e w'=>e=.returned (.string (bytesOf (nmd (32 :: (tx T++[32])) r)))∧Below w.heap.size w w':=by
 obtain⟨nm,at_⟩:=r;dsimp only at hr ⊢;have hsz:nm.size≤1000000000000000:=hr;have HB:Hid (Below w.heap.size w (w.alloc (.cells #[.string nm,.int .i64 at_] 36))):=(Below.refl _ _).alloc lr _;clear hr
 by_cases h:nm=zs
 · subst h
   go_enter Tryz.func103, Tryz.ntmps103
   go_wp2;go_ret;exact⟨rfl,HB.out⟩
 · have h2:(nm.toList == [])=false:=strl (by exact h)
   have HV:Hid (bytesOf (nmd (32 :: (tx T++[32])) ⟨nm,at_⟩) = { data:=#[32] }++T++{ data:=#[32] }++nm):=by
    show _=_
    unfold nmd
    rw[if_neg h,show(32 :: (tx T++[32])++tx nm:List UInt8)=[32]++tx T++[32]++tx nm by simp,←zab,←zab,←zab,zaz,zaz]
    rfl
   rw[HV.out];clear h HV
   go_enter Tryz.func103, Tryz.ntmps103
   go_wp2;go_ret;exact⟨rfl,HB.out⟩
theorem zd1{F:Nat→Prop}{e:Ex}(h:ExAn e)(a:Option Addr × Nat)(hl:(prE e).length+10≤1000000000000000)(w:World)(hA:ArgsIn F w a.1 e.args):Calls Tryz.prog 38 #[.agg (exC e a).toArray] w fun r w'=>r=.returned (.string (bytesOf (par (!(decide (e.op=k_number)|| decide (e.op=k_name))) (prE e))))∧Below w.heap.size w w':=by
 have HX:Hid (∀W,Below w.heap.size w W→Calls Tryz.prog 37 #[.agg (exC e a).toArray,.int .i64 0] W fun r w'=>r=.returned (.string (bytesOf (prE e)))∧Below W.heap.size W w'):=fun W hW=>by
  have h1:=zbn h a 0 W om hl (hA.keep (Keep.of_below hW F))
  unfold rxR at h1
  simpa[par] using h1
 have hs:(bytesOf (prE e)).size≤1000000000000000:=by rw[sz_b];omega
 have HW0:Hid (∀W,W=w.alloc (.cells (exC e a).toArray 39)→Below w.heap.size w W∧Blk W w.heap.size 39 (exC e a)):=by
  rintro W rfl;exact⟨(Below.refl _ _).alloc lr _,Blk.new _ _ _⟩
 generalize hPE:prE e=PE at *
 have HV1:Hid (bytesOf (par true PE) = { data:=#[40] }++bytesOf PE++{ data:=#[41] }):=by
  show _=_
  rw[par_t,show ∀L:List UInt8,(40 :: (L++[41]):List UInt8)=[40]++L++[41] from fun _=>rfl,←zab,←zab]
  rfl
 have HV0:Hid (bytesOf (par false PE)=bytesOf PE):=by show _=_;rw[par_f]
 clear hl hPE h hA;generalize bytesOf PE=S at *;generalize hr:exC e a=C at *;have hC:C=[.string e.op,.int .i64 e.num,.string e.text,.int .i64 e.at_,.slice a.1 e.args.length a.2]:=by rw[←hr];rfl
 clear hr;generalize e.op=op at *;generalize e.args.length=m at *;generalize e.num=n1 at *;generalize e.text=n2 at *;generalize e.at_=n3 at *;subst hC
 by_cases h1:op=k_number
 · subst h1
   simp only[decide_true,Bool.true_or,Bool.not_true];rw[HV0.out];clear HV0 HV1
   go_enter Tryz.func38, Tryz.ntmps38
   go_wp2_with (go_at_call 37;(refine(HX.out _ (by exact(HW0.out _ rfl).1)).mono ?_);rintro r w2 ⟨rfl,hB2⟩;have H2:Hid (Below w.heap.size w w2∧Blk w2 w.heap.size 39 _):=⟨(HW0.out _ rfl).1.trans (hB2.mono (HW0.out _ rfl).1.size),(HW0.out _ rfl).2.below hB2 (HW0.out _ rfl).2.lt⟩;have c0:w2.cell? ⟨w.heap.size,0,none⟩=_:=H2.out.2.cell 0;clear hB2)
   go_ret;exact⟨rfl,H2.out.1⟩
 · have s1:(op.toList == [110,117,109,98,101,114])=false:=strl h1
   by_cases h2:op=k_name
   · subst h2
     have HD:Hid ((!(decide ((k_name:ByteArray)=k_number)|| decide ((k_name:ByteArray)=k_name)))=false):=by show _=_;decide
     rw[HD.out,HV0.out];clear HV0 HV1 HD h1
     go_enter Tryz.func38, Tryz.ntmps38
     go_wp2_with (go_at_call 37;(refine(HX.out _ (by exact(HW0.out _ rfl).1)).mono ?_);rintro r w2 ⟨rfl,hB2⟩;have H2:Hid (Below w.heap.size w w2∧Blk w2 w.heap.size 39 _):=⟨(HW0.out _ rfl).1.trans (hB2.mono (HW0.out _ rfl).1.size),(HW0.out _ rfl).2.below hB2 (HW0.out _ rfl).2.lt⟩;have c0:w2.cell? ⟨w.heap.size,0,none⟩=_:=H2.out.2.cell 0;clear hB2)
     go_ret;exact⟨rfl,H2.out.1⟩
   · have s2:(op.toList == [110,97,109,101])=false:=strl h2
     have HD:Hid ((!(decide (op=k_number)|| decide (op=k_name)))=true):=by show _=_;simp[h1,h2]
     rw[HD.out,HV1.out];clear HV0 HV1 HD h1 h2
     go_enter Tryz.func38, Tryz.ntmps38
     go_wp2_with (go_at_call 37;(refine(HX.out _ (by exact(HW0.out _ rfl).1)).mono ?_);rintro r w2 ⟨rfl,hB2⟩;have H2:Hid (Below w.heap.size w w2∧Blk w2 w.heap.size 39 _):=⟨(HW0.out _ rfl).1.trans (hB2.mono (HW0.out _ rfl).1.size),(HW0.out _ rfl).2.below hB2 (HW0.out _ rfl).2.lt⟩;have c0:w2.cell? ⟨w.heap.size,0,none⟩=_:=H2.out.2.cell 0;clear hB2)
     go_ret;exact⟨rfl,H2.out.1⟩
end
end
section
structure LInA(F:Nat→Prop)(w:World)(s:St)(p:StA):Prop where
 a:ArgsIn F w p.a.1 s.ea.args
 b:ArgsIn F w p.b.1 s.eb.args
 c:ArgsIn F w p.c.1 s.ec.args
 r:RfsIn F w p.r.1 s.routes
 oa:ExAn s.ea
 ob:ExAn s.eb
 oc:ExAn s.ec
 hr:s.routes.length≤2000000
theorem LInA.keep{F G:Nat→Prop}{w w':World}(hk:Keep F G w w'){s:St}{p:StA}(h:LInA F w s p):LInA G w' s p:=⟨h.a.keep hk,h.b.keep hk,h.c.keep hk,h.r.keep hk,h.oa,h.ob,h.oc,h.hr⟩
section
variable{w w':World}
attribute [local go_sem ↓] zfh
theorem zml{F:Nat→Prop}(s:St)(p:StA)(hk:s.kind=k_send)(hin:LInA F w s p)(hl:(rHd s).length+10≤1000000000000000):Calls Tryz.prog 77 #[.agg (stC s p).toArray] w fun r w'=>r=.returned (.tuple #[.string (bytesOf (rHd s)),.bool false])∧Below w.heap.size w w':=by
 have HD:rHd s=[115,101,110,100,32]++prE s.ea++[32,118,105,97,32]++prR s.routes++nmd t_with s.block++nmd t_as s.tag:=by
  unfold rHd
  rw[hk]
  first|rfl|(unfold prLine;rfl)
 rw[HD]at hl ⊢;obtain⟨XA,hXA⟩:=ex9 (bytesOf (prE s.ea));have eA:=hXA
 have HXA:Hid (RW w 37 [.agg (exC s.ea p.a).toArray,.int .i64 0] XA):=fun W hW=>by
  have h1:=zbn hin.oa p.a 0 W om (by simp only[List.length_append]at hl;omega) (hin.a.keep (Keep.of_below hW F))
  unfold rxR at h1
  rw[hXA]
  simpa[par] using h1
 obtain⟨XR,hXR⟩:=ex9 (bytesOf (prR s.routes));have eR:=hXR
 have HXR:Hid (RW w 102 [.slice p.r.1 s.routes.length p.r.2] XR):=fun W hW=>by
  rw[hXR];exact zc0 p.r.1 s.routes _ p.r.2 rfl hin.hr W (hin.r.keep (Keep.of_below hW F)) (by simp only[List.length_append]at hl;omega)
 obtain⟨XW,hXW⟩:=ex9 (bytesOf (nmd t_with s.block));have eW:=hXW
 have HXW:Hid (∀W,Calls Tryz.prog 103 #[.string k_with,.agg (rfC s.block).toArray] W fun r w'=>r=.returned (.string XW)∧Below W.heap.size W w'):=fun W=>by
  rw[hXW];refine zd5 k_with (by decide) s.block ?_ W;have h1:(nmd t_with s.block).length≤1000000000000000:=by simp only[List.length_append]at hl;omega
  unfold nmd at h1
  split at h1
  · rename_i h2;rw[h2];decide
  · simp only[List.length_append]at h1;omega
 obtain⟨XT,hXT⟩:=ex9 (bytesOf (nmd t_as s.tag));have eT:=hXT
 have HXT:Hid (∀W,Calls Tryz.prog 103 #[.string k_as,.agg (rfC s.tag).toArray] W fun r w'=>r=.returned (.string XT)∧Below W.heap.size W w'):=fun W=>by
  rw[hXT];refine zd5 k_as (by decide) s.tag ?_ W;have h1:(nmd t_as s.tag).length≤1000000000000000:=by simp only[List.length_append]at hl;omega
  unfold nmd at h1
  split at h1
  · rename_i h2;rw[h2];decide
  · simp only[List.length_append]at h1;omega
 have zA:XA.size≤(prE s.ea).length:=by rw[eA,sz_b];exact lr
 have ZZA:Hid (XA.size≤1000000000000000):=by show _≤_;simp only[List.length_append]at hl;omega
 have zR:XR.size≤(prR s.routes).length:=by rw[eR,sz_b];exact lr
 have ZZR:Hid (XR.size≤1000000000000000):=by show _≤_;simp only[List.length_append]at hl;omega
 have zW:XW.size≤(nmd t_with s.block).length:=by rw[eW,sz_b];exact lr
 have ZZW:Hid (XW.size≤1000000000000000):=by show _≤_;simp only[List.length_append]at hl;omega
 have zT:XT.size≤(nmd t_as s.tag).length:=by rw[eT,sz_b];exact lr
 have ZZT:Hid (XT.size≤1000000000000000):=by show _≤_;simp only[List.length_append]at hl;omega
 have y0:({ data:=#[115,101,110,100,32] } : ByteArray).size≤30:=by decide
 have y1:({ data:=#[32,118,105,97,32] } : ByteArray).size≤30:=by decide
 have HCT:Hid (({ data:=#[115,101,110,100,32] } : ByteArray).size+(XA:ByteArray).size≤9223372036854775807∧({ data:=#[115,101,110,100,32] }++XA:ByteArray).size+({ data:=#[32,118,105,97,32] } : ByteArray).size≤9223372036854775807∧({ data:=#[115,101,110,100,32] }++XA++{ data:=#[32,118,105,97,32] } : ByteArray).size+(XR:ByteArray).size≤9223372036854775807∧({ data:=#[115,101,110,100,32] }++XA++{ data:=#[32,118,105,97,32] }++XR:ByteArray).size+(XW:ByteArray).size≤9223372036854775807∧({ data:=#[115,101,110,100,32] }++XA++{ data:=#[32,118,105,97,32] }++XR++XW:ByteArray).size+(XT:ByteArray).size≤9223372036854775807∧True):=by
  simp only[List.length_append]at hl;refine⟨?_,?_,?_,?_,?_,trivial⟩ <;> (try simp only[ByteArray.size_append]) <;> omega
 have HV:Hid ({ data:=#[115,101,110,100,32] }++XA++{ data:=#[32,118,105,97,32] }++XR++XW++XT=bytesOf ([115,101,110,100,32]++prE s.ea++[32,118,105,97,32]++prR s.routes++nmd t_with s.block++nmd t_as s.tag)):=by
  show _=_
  rw[eA,eR,eW,eT,show({ data:=#[115,101,110,100,32] } : ByteArray)=bytesOf [115,101,110,100,32] from rfl,show({ data:=#[32,118,105,97,32] } : ByteArray)=bytesOf [32,118,105,97,32] from rfl];simp only[zab]
 obtain⟨V,hV⟩:=ex9 (bytesOf ([115,101,110,100,32]++prE s.ea++[32,118,105,97,32]++prR s.routes++nmd t_with s.block++nmd t_as s.tag));rw[←hV]at HV ⊢;obtain⟨C,hC⟩:=ex9 (stC s p);have HCL:Hid (C.length=26):=by show _=_;rw[hC];rfl
 have k0:C[0]? = some (.string k_send):=by rw[hC,←hk];rfl
 obtain⟨CA,hCA⟩:=ex9 (exC s.ea p.a);have kA:∀j v,CA[j]? = some v→C[4+j]? = some v:=by rw[hC,hCA];exact stC_a s p
 have lA:Hid (CA.length=5):=by show _=_;rw[hCA];rfl
 rw[←hCA]at HXA;have kR:C[19]? = some (.slice p.r.1 s.routes.length p.r.2):=by rw[hC];rfl
 have kW:∀j v,(rfC s.block)[j]? = some v→C[20+j]? = some v:=by rw[hC];exact stC_w s p
 have kT:∀j v,(rfC s.tag)[j]? = some v→C[22+j]? = some v:=by rw[hC];exact stC_t s p
 obtain⟨O,hO⟩:=ex9 (Obj.cells C.toArray 42 (0,0))
 have HLD:Hid (∀W,Below (w.heap.size+1) (w.alloc (.cells C.toArray 42)) W→W.rangeAt w.heap.size 4 CA∧W.cell? ⟨w.heap.size,19,none⟩=some (.slice p.r.1 s.routes.length p.r.2)∧W.rangeAt w.heap.size 20 (rfC s.block)∧W.rangeAt w.heap.size 22 (rfC s.tag)∧Below w.heap.size w W):=fun W hW=>by
  have hB:Blk W w.heap.size 42 C:=(Blk.new w 42 C).below hW om;exact⟨(hB.mid 4 _ kA),((hB.cell 19).trans kR),(hB.mid 20 _ kW),(hB.mid 22 _ kT),((Below.refl w.heap.size w).alloc lr _).trans (hW.mono (Nat.le_succ _))⟩
 have c0:(w.alloc (.cells C.toArray 42)).cell? ⟨w.heap.size,0,none⟩=some (.string k_send):=((Blk.new w 42 C).cell 0).trans k0;have hsz:(w.alloc (.cells C.toArray 42)).heap.size=w.heap.size+1:=by simp
 clear hin hl HD hV hO hXA eA zA hXR eR zR hXW eW zW hXT eT zT y0 y1 kA kR kW kT k0;rw[←hC];clear hk hC hCA
 go_enter Tryz.func77, Tryz.ntmps77
 go_upto_region 3 with fail
 obtain⟨W0,hW0⟩:=ex9 (w.alloc (.cells C.toArray 42));rw[←hW0]at HLD hsz ⊢;clear hW0 c0;have hT:Below W0.heap.size W0 W0.drew:=Below.drew (Below.refl _ _);rw[←hsz]at HLD;refine kgo kr 17 (fun W=>Below W0.heap.size W0 W) hT (fun _ _ _ _ _ h=>h) ?_;refine kp 0 (.pointer (some ⟨w.heap.size,4,none⟩)) rfl kr (fun _=>kr) ?_;refine kl 1 (.agg CA.toArray) rfl kr (fun w' hw'=>zac rfl kr (run_loadAt_mid w' w.heap.size 4 39 CA _ (HLD.out w' hw').1 Tryz.underlying39 rfl (by rw[lA.out];exact hdEx))) ?_;refine kp 5 (.pointer (some ⟨w.heap.size,19,none⟩)) rfl kr (fun _=>kr) ?_;refine kl 6 (.slice p.r.1 s.routes.length p.r.2) rfl kr (fun w' hw'=>zah (t:=40) (x:=.tmp 13) rr kr agRfs (HLD.out w' hw').2.1) ?_;refine kp 9 (.pointer (some ⟨w.heap.size,20,none⟩)) rfl kr (fun _=>kr) ?_;refine kl 10 (.agg (rfC s.block).toArray) rfl kr (fun w' hw'=>zac rfl kr (run_loadAt_mid w' w.heap.size 20 36 (rfC s.block) _ (HLD.out w' hw').2.2.1 Tryz.underlying36 rfl hdRf)) ?_;refine kp 13 (.pointer (some ⟨w.heap.size,22,none⟩)) rfl kr (fun _=>kr) ?_;refine kl 14 (.agg (rfC s.tag).toArray) rfl kr (fun w' hw'=>zac rfl kr (run_loadAt_mid w' w.heap.size 22 36 (rfC s.tag) _ (HLD.out w' hw').2.2.2.1 Tryz.underlying36 rfl hdRf)) ?_;intro q8 q9;clear q8 q9;refine AnyK.enter 2 (d:=some 10) (f:=37) (args:=#[.agg CA.toArray,.int .i64 0]) rr kr kr ?_;refine(HXA.out _ (HLD.out _ hT).2.2.2.2).mono ?_;rintro r w1 ⟨rfl,hB1⟩;have hT1:Below W0.heap.size W0 w1:=hT.trans hB1;refine⟨_,rfl,fun _=>hT1,?_⟩;refine AnyK.pure 3 (v:=.string ({ data:=#[115,101,110,100,32] }++XA)) rfl kr (fun _ _ _ h=>h) rfl (fun _=>zan rr kr kr HCT.out.1) (fun _=>hT1) ?_;refine AnyK.pure 4 (v:=.string ({ data:=#[115,101,110,100,32] }++XA++{ data:=#[32,118,105,97,32] })) rfl kr (fun _ _ _ h=>h) rfl (fun _=>zan rr kr kr HCT.out.2.1) (fun _=>hT1) ?_;refine AnyK.enter 7 (d:=some 15) (f:=102) (args:=#[.slice p.r.1 s.routes.length p.r.2]) rr kr kr ?_;refine(HXR.out _ (HLD.out _ hT1).2.2.2.2).mono ?_;rintro r w2 ⟨rfl,hB2⟩;have hT2:Below W0.heap.size W0 w2:=hT1.trans (hB2.mono hT1.size);refine⟨_,rfl,fun _=>hT2,?_⟩;refine AnyK.pure 8 (v:=.string ({ data:=#[115,101,110,100,32] }++XA++{ data:=#[32,118,105,97,32] }++XR)) rfl kr (fun _ _ _ h=>h) rfl (fun _=>zan rr kr kr HCT.out.2.2.1) (fun _=>hT2) ?_;refine AnyK.enter 11 (d:=some 19) (f:=103) (args:=#[.string k_with,.agg (rfC s.block).toArray]) rr kr kr ?_;refine(HXW.out _).mono ?_;rintro r w3 ⟨rfl,hB3⟩;have hT3:Below W0.heap.size W0 w3:=hT2.trans (hB3.mono hT2.size);refine⟨_,rfl,fun _=>hT3,?_⟩;refine AnyK.pure 12 (v:=.string ({ data:=#[115,101,110,100,32] }++XA++{ data:=#[32,118,105,97,32] }++XR++XW)) rfl kr (fun _ _ _ h=>h) rfl (fun _=>zan rr kr kr HCT.out.2.2.2.1) (fun _=>hT3) ?_;refine AnyK.enter 15 (d:=some 23) (f:=103) (args:=#[.string k_as,.agg (rfC s.tag).toArray]) rr kr kr ?_;refine(HXT.out _).mono ?_;rintro r w4 ⟨rfl,hB4⟩;have hT4:Below W0.heap.size W0 w4:=hT3.trans (hB4.mono hT3.size);refine⟨_,rfl,fun _=>hT4,?_⟩;refine AnyK.pure 16 (v:=.string V) rfl kr (fun _ _ _ h=>h) rfl (fun _=>by rw[←HV.out];exact zan rr kr kr HCT.out.2.2.2.2.1) (fun _=>hT4) ?_;refine AnyK.val 17 (v:=.string V) rr kr rfl kr (fun h=>(by cases h)) ?_;refine AnyK.val 18 (v:=.bool false) rr kr rfl kr (fun h=>(by cases h)) ?_;have HB9:Hid (Below w.heap.size w _):=(HLD.out _ hT4).2.2.2.2;refine AnyK.done ?_ ?_
 · kernel_rfl
 clear HV HCT HLD hsz hT hT1 hB1 hT2 hB2 hT3 hB3 hT4 hB4 HXA HXR HXW HXT;simp only[List.getElem_toArray,List.getElem_cons_zero,List.getElem_cons_succ,Act.put,List.setIfInBounds_toArray,List.set_cons_succ,List.set_cons_zero];go_wp2;refine bodyPost_ret (results_tmp2 rfl _ _ _) rfl ?_;exact⟨rfl,HB9.out⟩
theorem zjz{F:Nat→Prop}(s:St)(p:StA)(hk:s.kind=k_split)(hin:LInA F w s p)(hl:(rHd s).length+10≤1000000000000000):Calls Tryz.prog 77 #[.agg (stC s p).toArray] w fun r w'=>r=.returned (.tuple #[.string (bytesOf (rHd s)),.bool false])∧Below w.heap.size w w':=by
 have HD:rHd s=[115,112,108,105,116,32]++prE s.ea++[32,118,105,97,32]++prR s.routes++nmd t_as s.tag:=by
  unfold rHd
  rw[hk]
  first|rfl|(unfold prLine;rfl)
 rw[HD]at hl ⊢;obtain⟨XA,hXA⟩:=ex9 (bytesOf (prE s.ea));have eA:=hXA
 have HXA:Hid (RW w 37 [.agg (exC s.ea p.a).toArray,.int .i64 0] XA):=fun W hW=>by
  have h1:=zbn hin.oa p.a 0 W om (by simp only[List.length_append]at hl;omega) (hin.a.keep (Keep.of_below hW F))
  unfold rxR at h1
  rw[hXA]
  simpa[par] using h1
 obtain⟨XR,hXR⟩:=ex9 (bytesOf (prR s.routes));have eR:=hXR
 have HXR:Hid (RW w 102 [.slice p.r.1 s.routes.length p.r.2] XR):=fun W hW=>by
  rw[hXR];exact zc0 p.r.1 s.routes _ p.r.2 rfl hin.hr W (hin.r.keep (Keep.of_below hW F)) (by simp only[List.length_append]at hl;omega)
 obtain⟨XT,hXT⟩:=ex9 (bytesOf (nmd t_as s.tag));have eT:=hXT
 have HXT:Hid (∀W,Calls Tryz.prog 103 #[.string k_as,.agg (rfC s.tag).toArray] W fun r w'=>r=.returned (.string XT)∧Below W.heap.size W w'):=fun W=>by
  rw[hXT];refine zd5 k_as (by decide) s.tag ?_ W;have h1:(nmd t_as s.tag).length≤1000000000000000:=by simp only[List.length_append]at hl;omega
  unfold nmd at h1
  split at h1
  · rename_i h2;rw[h2];decide
  · simp only[List.length_append]at h1;omega
 have zA:XA.size≤(prE s.ea).length:=by rw[eA,sz_b];exact lr
 have ZZA:Hid (XA.size≤1000000000000000):=by show _≤_;simp only[List.length_append]at hl;omega
 have zR:XR.size≤(prR s.routes).length:=by rw[eR,sz_b];exact lr
 have ZZR:Hid (XR.size≤1000000000000000):=by show _≤_;simp only[List.length_append]at hl;omega
 have zT:XT.size≤(nmd t_as s.tag).length:=by rw[eT,sz_b];exact lr
 have ZZT:Hid (XT.size≤1000000000000000):=by show _≤_;simp only[List.length_append]at hl;omega
 have y0:({ data:=#[115,112,108,105,116,32] } : ByteArray).size≤30:=by decide
 have y1:({ data:=#[32,118,105,97,32] } : ByteArray).size≤30:=by decide
 have HCT:Hid (({ data:=#[115,112,108,105,116,32] } : ByteArray).size+(XA:ByteArray).size≤9223372036854775807∧({ data:=#[115,112,108,105,116,32] }++XA:ByteArray).size+({ data:=#[32,118,105,97,32] } : ByteArray).size≤9223372036854775807∧({ data:=#[115,112,108,105,116,32] }++XA++{ data:=#[32,118,105,97,32] } : ByteArray).size+(XR:ByteArray).size≤9223372036854775807∧({ data:=#[115,112,108,105,116,32] }++XA++{ data:=#[32,118,105,97,32] }++XR:ByteArray).size+(XT:ByteArray).size≤9223372036854775807∧True):=by
  simp only[List.length_append]at hl;refine⟨?_,?_,?_,?_,trivial⟩ <;> (try simp only[ByteArray.size_append]) <;> omega
 have HV:Hid ({ data:=#[115,112,108,105,116,32] }++XA++{ data:=#[32,118,105,97,32] }++XR++XT=bytesOf ([115,112,108,105,116,32]++prE s.ea++[32,118,105,97,32]++prR s.routes++nmd t_as s.tag)):=by
  show _=_
  rw[eA,eR,eT,show({ data:=#[115,112,108,105,116,32] } : ByteArray)=bytesOf [115,112,108,105,116,32] from rfl,show({ data:=#[32,118,105,97,32] } : ByteArray)=bytesOf [32,118,105,97,32] from rfl];simp only[zab]
 obtain⟨V,hV⟩:=ex9 (bytesOf ([115,112,108,105,116,32]++prE s.ea++[32,118,105,97,32]++prR s.routes++nmd t_as s.tag));rw[←hV]at HV ⊢;obtain⟨C,hC⟩:=ex9 (stC s p);have HCL:Hid (C.length=26):=by show _=_;rw[hC];rfl
 have k0:C[0]? = some (.string k_split):=by rw[hC,←hk];rfl
 obtain⟨CA,hCA⟩:=ex9 (exC s.ea p.a);have kA:∀j v,CA[j]? = some v→C[4+j]? = some v:=by rw[hC,hCA];exact stC_a s p
 have lA:Hid (CA.length=5):=by show _=_;rw[hCA];rfl
 rw[←hCA]at HXA;have kR:C[19]? = some (.slice p.r.1 s.routes.length p.r.2):=by rw[hC];rfl
 have kT:∀j v,(rfC s.tag)[j]? = some v→C[22+j]? = some v:=by rw[hC];exact stC_t s p
 obtain⟨O,hO⟩:=ex9 (Obj.cells C.toArray 42 (0,0))
 have HLD:Hid (∀W,Below (w.heap.size+1) (w.alloc (.cells C.toArray 42)) W→W.rangeAt w.heap.size 4 CA∧W.cell? ⟨w.heap.size,19,none⟩=some (.slice p.r.1 s.routes.length p.r.2)∧W.rangeAt w.heap.size 22 (rfC s.tag)∧Below w.heap.size w W):=fun W hW=>by
  have hB:Blk W w.heap.size 42 C:=(Blk.new w 42 C).below hW om;exact⟨(hB.mid 4 _ kA),((hB.cell 19).trans kR),(hB.mid 22 _ kT),((Below.refl w.heap.size w).alloc lr _).trans (hW.mono (Nat.le_succ _))⟩
 have c0:(w.alloc (.cells C.toArray 42)).cell? ⟨w.heap.size,0,none⟩=some (.string k_split):=((Blk.new w 42 C).cell 0).trans k0;have hsz:(w.alloc (.cells C.toArray 42)).heap.size=w.heap.size+1:=by simp
 clear hin hl HD hV hO hXA eA zA hXR eR zR hXT eT zT y0 y1 kA kR kT k0;rw[←hC];clear hk hC hCA
 go_enter Tryz.func77, Tryz.ntmps77
 go_upto_region 5 with fail
 obtain⟨W0,hW0⟩:=ex9 (w.alloc (.cells C.toArray 42));rw[←hW0]at HLD hsz ⊢;clear hW0 c0;have hT:Below W0.heap.size W0 W0.drew:=Below.drew (Below.refl _ _);rw[←hsz]at HLD;refine kgo kr 13 (fun W=>Below W0.heap.size W0 W) hT (fun _ _ _ _ _ h=>h) ?_;refine kp 0 (.pointer (some ⟨w.heap.size,4,none⟩)) rfl kr (fun _=>kr) ?_;refine kl 1 (.agg CA.toArray) rfl kr (fun w' hw'=>zac rfl kr (run_loadAt_mid w' w.heap.size 4 39 CA _ (HLD.out w' hw').1 Tryz.underlying39 rfl (by rw[lA.out];exact hdEx))) ?_;refine kp 5 (.pointer (some ⟨w.heap.size,19,none⟩)) rfl kr (fun _=>kr) ?_;refine kl 6 (.slice p.r.1 s.routes.length p.r.2) rfl kr (fun w' hw'=>zah (t:=40) (x:=.tmp 32) rr kr agRfs (HLD.out w' hw').2.1) ?_;refine kp 9 (.pointer (some ⟨w.heap.size,22,none⟩)) rfl kr (fun _=>kr) ?_;refine kl 10 (.agg (rfC s.tag).toArray) rfl kr (fun w' hw'=>zac rfl kr (run_loadAt_mid w' w.heap.size 22 36 (rfC s.tag) _ (HLD.out w' hw').2.2.1 Tryz.underlying36 rfl hdRf)) ?_;intro q8 q9;clear q8 q9;refine AnyK.enter 2 (d:=some 29) (f:=37) (args:=#[.agg CA.toArray,.int .i64 0]) rr kr kr ?_;refine(HXA.out _ (HLD.out _ hT).2.2.2).mono ?_;rintro r w1 ⟨rfl,hB1⟩;have hT1:Below W0.heap.size W0 w1:=hT.trans hB1;refine⟨_,rfl,fun _=>hT1,?_⟩;refine AnyK.pure 3 (v:=.string ({ data:=#[115,112,108,105,116,32] }++XA)) rfl kr (fun _ _ _ h=>h) rfl (fun _=>zan rr kr kr HCT.out.1) (fun _=>hT1) ?_;refine AnyK.pure 4 (v:=.string ({ data:=#[115,112,108,105,116,32] }++XA++{ data:=#[32,118,105,97,32] })) rfl kr (fun _ _ _ h=>h) rfl (fun _=>zan rr kr kr HCT.out.2.1) (fun _=>hT1) ?_;refine AnyK.enter 7 (d:=some 34) (f:=102) (args:=#[.slice p.r.1 s.routes.length p.r.2]) rr kr kr ?_;refine(HXR.out _ (HLD.out _ hT1).2.2.2).mono ?_;rintro r w2 ⟨rfl,hB2⟩;have hT2:Below W0.heap.size W0 w2:=hT1.trans (hB2.mono hT1.size);refine⟨_,rfl,fun _=>hT2,?_⟩;refine AnyK.pure 8 (v:=.string ({ data:=#[115,112,108,105,116,32] }++XA++{ data:=#[32,118,105,97,32] }++XR)) rfl kr (fun _ _ _ h=>h) rfl (fun _=>zan rr kr kr HCT.out.2.2.1) (fun _=>hT2) ?_;refine AnyK.enter 11 (d:=some 38) (f:=103) (args:=#[.string k_as,.agg (rfC s.tag).toArray]) rr kr kr ?_;refine(HXT.out _).mono ?_;rintro r w3 ⟨rfl,hB3⟩;have hT3:Below W0.heap.size W0 w3:=hT2.trans (hB3.mono hT2.size);refine⟨_,rfl,fun _=>hT3,?_⟩;refine AnyK.pure 12 (v:=.string V) rfl kr (fun _ _ _ h=>h) rfl (fun _=>by rw[←HV.out];exact zan rr kr kr HCT.out.2.2.2.1) (fun _=>hT3) ?_;refine AnyK.val 13 (v:=.string V) rr kr rfl kr (fun h=>(by cases h)) ?_;refine AnyK.val 14 (v:=.bool false) rr kr rfl kr (fun h=>(by cases h)) ?_;have HB9:Hid (Below w.heap.size w _):=(HLD.out _ hT3).2.2.2;refine AnyK.done ?_ ?_
 · kernel_rfl
 clear HV HCT HLD hsz hT hT1 hB1 hT2 hB2 hT3 hB3 HXA HXR HXT;simp only[List.getElem_toArray,List.getElem_cons_zero,List.getElem_cons_succ,Act.put,List.setIfInBounds_toArray,List.set_cons_succ,List.set_cons_zero];go_wp2;refine bodyPost_ret (results_tmp2 rfl _ _ _) rfl ?_;exact⟨rfl,HB9.out⟩
theorem zj2{F:Nat→Prop}(s:St)(p:StA)(hk:s.kind=k_cover)(hin:LInA F w s p)(hl:(rHd s).length+10≤1000000000000000):Calls Tryz.prog 77 #[.agg (stC s p).toArray] w fun r w'=>r=.returned (.tuple #[.string (bytesOf (rHd s)),.bool false])∧Below w.heap.size w w':=by
 have HD:rHd s=[99,111,118,101,114,32]++prR s.routes:=by
  unfold rHd
  rw[hk]
  first|rfl|(unfold prLine;rfl)
 rw[HD]at hl ⊢;obtain⟨XR,hXR⟩:=ex9 (bytesOf (prR s.routes));have eR:=hXR
 have HXR:Hid (RW w 102 [.slice p.r.1 s.routes.length p.r.2] XR):=fun W hW=>by
  rw[hXR];exact zc0 p.r.1 s.routes _ p.r.2 rfl hin.hr W (hin.r.keep (Keep.of_below hW F)) (by simp only[List.length_append]at hl;omega)
 have zR:XR.size≤(prR s.routes).length:=by rw[eR,sz_b];exact lr
 have ZZR:Hid (XR.size≤1000000000000000):=by show _≤_;simp only[List.length_append]at hl;omega
 have y0:({ data:=#[99,111,118,101,114,32] } : ByteArray).size≤30:=by decide
 have HCT:Hid (({ data:=#[99,111,118,101,114,32] } : ByteArray).size+(XR:ByteArray).size≤9223372036854775807∧True):=by
  simp only[List.length_append]at hl;refine⟨?_,trivial⟩ <;> (try simp only[ByteArray.size_append]) <;> omega
 have HV:Hid ({ data:=#[99,111,118,101,114,32] }++XR=bytesOf ([99,111,118,101,114,32]++prR s.routes)):=by
  show _=_
  rw[eR,show({ data:=#[99,111,118,101,114,32] } : ByteArray)=bytesOf [99,111,118,101,114,32] from rfl];simp only[zab]
 obtain⟨V,hV⟩:=ex9 (bytesOf ([99,111,118,101,114,32]++prR s.routes));rw[←hV]at HV ⊢;obtain⟨C,hC⟩:=ex9 (stC s p);have HCL:Hid (C.length=26):=by show _=_;rw[hC];rfl
 have k0:C[0]? = some (.string k_cover):=by rw[hC,←hk];rfl
 have kR:C[19]? = some (.slice p.r.1 s.routes.length p.r.2):=by rw[hC];rfl
 obtain⟨O,hO⟩:=ex9 (Obj.cells C.toArray 42 (0,0))
 have HLD:Hid (∀W,Below (w.heap.size+1) (w.alloc (.cells C.toArray 42)) W→W.cell? ⟨w.heap.size,19,none⟩=some (.slice p.r.1 s.routes.length p.r.2)∧Below w.heap.size w W):=fun W hW=>by
  have hB:Blk W w.heap.size 42 C:=(Blk.new w 42 C).below hW om;exact⟨((hB.cell 19).trans kR),((Below.refl w.heap.size w).alloc lr _).trans (hW.mono (Nat.le_succ _))⟩
 have c0:(w.alloc (.cells C.toArray 42)).cell? ⟨w.heap.size,0,none⟩=some (.string k_cover):=((Blk.new w 42 C).cell 0).trans k0;have hsz:(w.alloc (.cells C.toArray 42)).heap.size=w.heap.size+1:=by simp
 clear hin hl HD hV hO hXR eR zR y0 kR k0;rw[←hC];clear hk hC
 go_enter Tryz.func77, Tryz.ntmps77
 have HT0:Hid (Below (w.heap.size+1) (w.alloc (.cells C.toArray 42)) (w.alloc (.cells C.toArray 42))):=Below.refl _ _;have ldR:=(HLD.out _ HT0.out).1;have HV2:=HV;clear HV;have zzR:XR.size≤1000000000000000:=ZZR.out
 go_wp2_with (go_at_call 102;(refine(HXR.out _ (by exact(HLD.out _ HT0.out).2)).mono ?_);rintro r w2 ⟨rfl,hB2⟩;have H2:Hid (Below w.heap.size w w2):=(HLD.out _ HT0.out).2.trans (hB2.mono (HLD.out _ HT0.out).2.size);clear hB2)
 refine bodyPost_ret (results_tmp2 rfl _ _ _) rfl ?_;exact⟨by rw[←HV2.out];rfl,H2.out⟩
theorem zmk{F:Nat→Prop}(s:St)(p:StA)(hk:s.kind=k_wait)(hin:LInA F w s p)(hl:(rHd s).length+10≤1000000000000000):Calls Tryz.prog 77 #[.agg (stC s p).toArray] w fun r w'=>r=.returned (.tuple #[.string (bytesOf (rHd s)),.bool false])∧Below w.heap.size w w':=by
 have HD:rHd s=[119,97,105,116,32]++prE s.ea:=by
  unfold rHd
  rw[hk]
  first|rfl|(unfold prLine;rfl)
 rw[HD]at hl ⊢;obtain⟨XA,hXA⟩:=ex9 (bytesOf (prE s.ea));have eA:=hXA
 have HXA:Hid (RW w 37 [.agg (exC s.ea p.a).toArray,.int .i64 0] XA):=fun W hW=>by
  have h1:=zbn hin.oa p.a 0 W om (by simp only[List.length_append]at hl;omega) (hin.a.keep (Keep.of_below hW F))
  unfold rxR at h1
  rw[hXA]
  simpa[par] using h1
 have zA:XA.size≤(prE s.ea).length:=by rw[eA,sz_b];exact lr
 have ZZA:Hid (XA.size≤1000000000000000):=by show _≤_;simp only[List.length_append]at hl;omega
 have y0:({ data:=#[119,97,105,116,32] } : ByteArray).size≤30:=by decide
 have HCT:Hid (({ data:=#[119,97,105,116,32] } : ByteArray).size+(XA:ByteArray).size≤9223372036854775807∧True):=by
  simp only[List.length_append]at hl;refine⟨?_,trivial⟩ <;> (try simp only[ByteArray.size_append]) <;> omega
 have HV:Hid ({ data:=#[119,97,105,116,32] }++XA=bytesOf ([119,97,105,116,32]++prE s.ea)):=by
  show _=_
  rw[eA,show({ data:=#[119,97,105,116,32] } : ByteArray)=bytesOf [119,97,105,116,32] from rfl];simp only[zab]
 obtain⟨V,hV⟩:=ex9 (bytesOf ([119,97,105,116,32]++prE s.ea));rw[←hV]at HV ⊢;obtain⟨C,hC⟩:=ex9 (stC s p);have HCL:Hid (C.length=26):=by show _=_;rw[hC];rfl
 have k0:C[0]? = some (.string k_wait):=by rw[hC,←hk];rfl
 obtain⟨CA,hCA⟩:=ex9 (exC s.ea p.a);have kA:∀j v,CA[j]? = some v→C[4+j]? = some v:=by rw[hC,hCA];exact stC_a s p
 have lA:Hid (CA.length=5):=by show _=_;rw[hCA];rfl
 rw[←hCA]at HXA;obtain⟨O,hO⟩:=ex9 (Obj.cells C.toArray 42 (0,0))
 have HLD:Hid (∀W,Below (w.heap.size+1) (w.alloc (.cells C.toArray 42)) W→W.rangeAt w.heap.size 4 CA∧Below w.heap.size w W):=fun W hW=>by
  have hB:Blk W w.heap.size 42 C:=(Blk.new w 42 C).below hW om;exact⟨(hB.mid 4 _ kA),((Below.refl w.heap.size w).alloc lr _).trans (hW.mono (Nat.le_succ _))⟩
 have c0:(w.alloc (.cells C.toArray 42)).cell? ⟨w.heap.size,0,none⟩=some (.string k_wait):=((Blk.new w 42 C).cell 0).trans k0;have hsz:(w.alloc (.cells C.toArray 42)).heap.size=w.heap.size+1:=by simp
 clear hin hl HD hV hO hXA eA zA y0 kA k0;rw[←hC];clear hk hC hCA
 go_enter Tryz.func77, Tryz.ntmps77
 have HT0:Hid (Below (w.heap.size+1) (w.alloc (.cells C.toArray 42)) (w.alloc (.cells C.toArray 42))):=Below.refl _ _;have ldA:(ldAt 39 (.pointer (some ⟨w.heap.size,4,none⟩))).run Tryz.prog (w.alloc (.cells C.toArray 42))=.ok (.agg CA.toArray) (w.alloc (.cells C.toArray 42)):=run_loadAt_mid (w.alloc (.cells C.toArray 42)) w.heap.size 4 39 CA _ (HLD.out _ HT0.out).1 Tryz.underlying39 rfl (by rw[lA.out];exact hdEx);have HV2:=HV;clear HV;have zzA:XA.size≤1000000000000000:=ZZA.out
 go_wp2_with (go_at_call 37;(refine(HXA.out _ (by exact(HLD.out _ HT0.out).2)).mono ?_);rintro r w2 ⟨rfl,hB2⟩;have H2:Hid (Below w.heap.size w w2):=(HLD.out _ HT0.out).2.trans (hB2.mono (HLD.out _ HT0.out).2.size);clear hB2)
 refine bodyPost_ret (results_tmp2 rfl _ _ _) rfl ?_;exact⟨by rw[←HV2.out];rfl,H2.out⟩
theorem zj3{F:Nat→Prop}(s:St)(p:StA)(hk:s.kind=k_block)(hin:LInA F w s p)(hl:(rHd s).length+10≤1000000000000000):Calls Tryz.prog 77 #[.agg (stC s p).toArray] w fun r w'=>r=.returned (.tuple #[.string (bytesOf (rHd s)),.bool false])∧Below w.heap.size w w':=by
 have HD:rHd s=[98,108,111,99,107,32]++tx s.name.name++[32,118,105,97,32]++prR s.routes:=by
  unfold rHd
  rw[hk]
  first|rfl|(unfold prLine;rfl)
 rw[HD]at hl ⊢;obtain⟨XN,hXN⟩:=ex9 (s.name.name);have eN:XN=bytesOf (tx s.name.name):=by rw[zaz];exact hXN
 obtain⟨XR,hXR⟩:=ex9 (bytesOf (prR s.routes));have eR:=hXR
 have HXR:Hid (RW w 102 [.slice p.r.1 s.routes.length p.r.2] XR):=fun W hW=>by
  rw[hXR];exact zc0 p.r.1 s.routes _ p.r.2 rfl hin.hr W (hin.r.keep (Keep.of_below hW F)) (by simp only[List.length_append]at hl;omega)
 have zN:XN.size≤(tx s.name.name).length:=by rw[eN,sz_b];exact lr
 have ZZN:Hid (XN.size≤1000000000000000):=by show _≤_;simp only[List.length_append]at hl;omega
 have zR:XR.size≤(prR s.routes).length:=by rw[eR,sz_b];exact lr
 have ZZR:Hid (XR.size≤1000000000000000):=by show _≤_;simp only[List.length_append]at hl;omega
 have y0:({ data:=#[98,108,111,99,107,32] } : ByteArray).size≤30:=by decide
 have y1:({ data:=#[32,118,105,97,32] } : ByteArray).size≤30:=by decide
 have HCT:Hid (({ data:=#[98,108,111,99,107,32] } : ByteArray).size+(XN:ByteArray).size≤9223372036854775807∧({ data:=#[98,108,111,99,107,32] }++XN:ByteArray).size+({ data:=#[32,118,105,97,32] } : ByteArray).size≤9223372036854775807∧({ data:=#[98,108,111,99,107,32] }++XN++{ data:=#[32,118,105,97,32] } : ByteArray).size+(XR:ByteArray).size≤9223372036854775807∧True):=by
  simp only[List.length_append]at hl;refine⟨?_,?_,?_,trivial⟩ <;> (try simp only[ByteArray.size_append]) <;> omega
 have HV:Hid ({ data:=#[98,108,111,99,107,32] }++XN++{ data:=#[32,118,105,97,32] }++XR=bytesOf ([98,108,111,99,107,32]++tx s.name.name++[32,118,105,97,32]++prR s.routes)):=by
  show _=_
  rw[eN,eR,show({ data:=#[98,108,111,99,107,32] } : ByteArray)=bytesOf [98,108,111,99,107,32] from rfl,show({ data:=#[32,118,105,97,32] } : ByteArray)=bytesOf [32,118,105,97,32] from rfl];simp only[zab]
 obtain⟨V,hV⟩:=ex9 (bytesOf ([98,108,111,99,107,32]++tx s.name.name++[32,118,105,97,32]++prR s.routes));rw[←hV]at HV ⊢;obtain⟨C,hC⟩:=ex9 (stC s p);have HCL:Hid (C.length=26):=by show _=_;rw[hC];rfl
 have k0:C[0]? = some (.string k_block):=by rw[hC,←hk];rfl
 have kN:C[2]? = some (.string XN):=by rw[hC,hXN];rfl
 have kR:C[19]? = some (.slice p.r.1 s.routes.length p.r.2):=by rw[hC];rfl
 obtain⟨O,hO⟩:=ex9 (Obj.cells C.toArray 42 (0,0))
 have HLD:Hid (∀W,Below (w.heap.size+1) (w.alloc (.cells C.toArray 42)) W→W.cell? ⟨w.heap.size,2,none⟩=some (.string XN)∧W.cell? ⟨w.heap.size,19,none⟩=some (.slice p.r.1 s.routes.length p.r.2)∧Below w.heap.size w W):=fun W hW=>by
  have hB:Blk W w.heap.size 42 C:=(Blk.new w 42 C).below hW om;exact⟨((hB.cell 2).trans kN),((hB.cell 19).trans kR),((Below.refl w.heap.size w).alloc lr _).trans (hW.mono (Nat.le_succ _))⟩
 have c0:(w.alloc (.cells C.toArray 42)).cell? ⟨w.heap.size,0,none⟩=some (.string k_block):=((Blk.new w 42 C).cell 0).trans k0;have hsz:(w.alloc (.cells C.toArray 42)).heap.size=w.heap.size+1:=by simp
 clear hin hl HD hV hO hXN eN zN hXR eR zR y0 y1 kN kR k0;rw[←hC];clear hk hC
 go_enter Tryz.func77, Tryz.ntmps77
 go_upto_region 11 with fail
 obtain⟨W0,hW0⟩:=ex9 (w.alloc (.cells C.toArray 42));rw[←hW0]at HLD hsz ⊢;clear hW0 c0;have hT:Below W0.heap.size W0 W0.drew:=Below.drew (Below.refl _ _);rw[←hsz]at HLD;refine kgo kr 9 (fun W=>Below W0.heap.size W0 W) hT (fun _ _ _ _ _ h=>h) ?_;refine kp 0 (.pointer (some ⟨w.heap.size,2,none⟩)) rfl kr (fun _=>kr) ?_;refine kp 1 (.pointer (some ⟨w.heap.size,2,none⟩)) rfl kr (fun _=>kr) ?_;refine kl 2 (.string XN) rfl kr (fun w' hw'=>zah (t:=9) (x:=.tmp 55) rr kr agStr (HLD.out w' hw').1) ?_;refine kp 5 (.pointer (some ⟨w.heap.size,19,none⟩)) rfl kr (fun _=>kr) ?_;refine kl 6 (.slice p.r.1 s.routes.length p.r.2) rfl kr (fun w' hw'=>zah (t:=40) (x:=.tmp 59) rr kr agRfs (HLD.out w' hw').2.1) ?_;refine kp 3 (.string ({ data:=#[98,108,111,99,107,32] }++XN)) rfl kr (fun _=>zan rr kr kr HCT.out.1) ?_;refine kp 4 (.string ({ data:=#[98,108,111,99,107,32] }++XN++{ data:=#[32,118,105,97,32] })) rfl kr (fun _=>zan rr kr kr HCT.out.2.1) ?_;intro q8 q9;clear q8 q9;refine AnyK.enter 7 (d:=some 61) (f:=102) (args:=#[.slice p.r.1 s.routes.length p.r.2]) rr kr kr ?_;refine(HXR.out _ (HLD.out _ hT).2.2).mono ?_;rintro r w1 ⟨rfl,hB1⟩;have hT1:Below W0.heap.size W0 w1:=hT.trans hB1;refine⟨_,rfl,fun _=>hT1,?_⟩;refine AnyK.pure 8 (v:=.string V) rfl kr (fun _ _ _ h=>h) rfl (fun _=>by rw[←HV.out];exact zan rr kr kr HCT.out.2.2.1) (fun _=>hT1) ?_;refine AnyK.val 9 (v:=.string V) rr kr rfl kr (fun h=>(by cases h)) ?_;refine AnyK.val 10 (v:=.bool false) rr kr rfl kr (fun h=>(by cases h)) ?_;have HB9:Hid (Below w.heap.size w _):=(HLD.out _ hT1).2.2;refine AnyK.done ?_ ?_
 · kernel_rfl
 clear HV HCT HLD hsz hT hT1 hB1 HXR;simp only[List.getElem_toArray,List.getElem_cons_zero,List.getElem_cons_succ,Act.put,List.setIfInBounds_toArray,List.set_cons_succ,List.set_cons_zero];go_wp2;refine bodyPost_ret (results_tmp2 rfl _ _ _) rfl ?_;exact⟨rfl,HB9.out⟩
theorem zj0{F:Nat→Prop}(s:St)(p:StA)(hk:s.kind=k_retry)(hin:LInA F w s p)(hl:(rHd s).length+10≤1000000000000000):Calls Tryz.prog 77 #[.agg (stC s p).toArray] w fun r w'=>r=.returned (.tuple #[.string (bytesOf (rHd s)),.bool false])∧Below w.heap.size w w':=by
 have HD:rHd s=[114,101,116,114,121,32]++prE s.ea++[32,101,118,101,114,121,32]++prE s.eb++[32,115,101,110,100,32]++prE s.ec++[32,118,105,97,32]++prR s.routes++nmd t_as s.tag:=by
  unfold rHd
  rw[hk]
  first|rfl|(unfold prLine;rfl)
 rw[HD]at hl ⊢;obtain⟨XA,hXA⟩:=ex9 (bytesOf (prE s.ea));have eA:=hXA
 have HXA:Hid (RW w 37 [.agg (exC s.ea p.a).toArray,.int .i64 0] XA):=fun W hW=>by
  have h1:=zbn hin.oa p.a 0 W om (by simp only[List.length_append]at hl;omega) (hin.a.keep (Keep.of_below hW F))
  unfold rxR at h1
  rw[hXA]
  simpa[par] using h1
 obtain⟨XB,hXB⟩:=ex9 (bytesOf (prE s.eb));have eB:=hXB
 have HXB:Hid (RW w 37 [.agg (exC s.eb p.b).toArray,.int .i64 0] XB):=fun W hW=>by
  have h1:=zbn hin.ob p.b 0 W om (by simp only[List.length_append]at hl;omega) (hin.b.keep (Keep.of_below hW F))
  unfold rxR at h1
  rw[hXB]
  simpa[par] using h1
 obtain⟨XC,hXC⟩:=ex9 (bytesOf (prE s.ec));have eC:=hXC
 have HXC:Hid (RW w 37 [.agg (exC s.ec p.c).toArray,.int .i64 0] XC):=fun W hW=>by
  have h1:=zbn hin.oc p.c 0 W om (by simp only[List.length_append]at hl;omega) (hin.c.keep (Keep.of_below hW F))
  unfold rxR at h1
  rw[hXC]
  simpa[par] using h1
 obtain⟨XR,hXR⟩:=ex9 (bytesOf (prR s.routes));have eR:=hXR
 have HXR:Hid (RW w 102 [.slice p.r.1 s.routes.length p.r.2] XR):=fun W hW=>by
  rw[hXR];exact zc0 p.r.1 s.routes _ p.r.2 rfl hin.hr W (hin.r.keep (Keep.of_below hW F)) (by simp only[List.length_append]at hl;omega)
 obtain⟨XT,hXT⟩:=ex9 (bytesOf (nmd t_as s.tag));have eT:=hXT
 have HXT:Hid (∀W,Calls Tryz.prog 103 #[.string k_as,.agg (rfC s.tag).toArray] W fun r w'=>r=.returned (.string XT)∧Below W.heap.size W w'):=fun W=>by
  rw[hXT];refine zd5 k_as (by decide) s.tag ?_ W;have h1:(nmd t_as s.tag).length≤1000000000000000:=by simp only[List.length_append]at hl;omega
  unfold nmd at h1
  split at h1
  · rename_i h2;rw[h2];decide
  · simp only[List.length_append]at h1;omega
 have zA:XA.size≤(prE s.ea).length:=by rw[eA,sz_b];exact lr
 have ZZA:Hid (XA.size≤1000000000000000):=by show _≤_;simp only[List.length_append]at hl;omega
 have zB:XB.size≤(prE s.eb).length:=by rw[eB,sz_b];exact lr
 have ZZB:Hid (XB.size≤1000000000000000):=by show _≤_;simp only[List.length_append]at hl;omega
 have zC:XC.size≤(prE s.ec).length:=by rw[eC,sz_b];exact lr
 have ZZC:Hid (XC.size≤1000000000000000):=by show _≤_;simp only[List.length_append]at hl;omega
 have zR:XR.size≤(prR s.routes).length:=by rw[eR,sz_b];exact lr
 have ZZR:Hid (XR.size≤1000000000000000):=by show _≤_;simp only[List.length_append]at hl;omega
 have zT:XT.size≤(nmd t_as s.tag).length:=by rw[eT,sz_b];exact lr
 have ZZT:Hid (XT.size≤1000000000000000):=by show _≤_;simp only[List.length_append]at hl;omega
 have y0:({ data:=#[114,101,116,114,121,32] } : ByteArray).size≤30:=by decide
 have y1:({ data:=#[32,101,118,101,114,121,32] } : ByteArray).size≤30:=by decide
 have y2:({ data:=#[32,115,101,110,100,32] } : ByteArray).size≤30:=by decide
 have y3:({ data:=#[32,118,105,97,32] } : ByteArray).size≤30:=by decide
 obtain⟨P0,hP0⟩:=ex9 ({ data:=#[114,101,116,114,121,32] }++XA);have sP0:P0.size=({ data:=#[114,101,116,114,121,32] } : ByteArray).size+(XA:ByteArray).size:=by rw[hP0,ByteArray.size_append]
 have HP0:=qh hP0.symm;obtain⟨P1,hP1⟩:=ex9 (P0++{ data:=#[32,101,118,101,114,121,32] });have sP1:P1.size=(P0:ByteArray).size+({ data:=#[32,101,118,101,114,121,32] } : ByteArray).size:=by rw[hP1,ByteArray.size_append]
 have HP1:=qh hP1.symm;obtain⟨P2,hP2⟩:=ex9 (P1++XB);have sP2:P2.size=(P1:ByteArray).size+(XB:ByteArray).size:=by rw[hP2,ByteArray.size_append]
 have HP2:=qh hP2.symm;obtain⟨P3,hP3⟩:=ex9 (P2++{ data:=#[32,115,101,110,100,32] });have sP3:P3.size=(P2:ByteArray).size+({ data:=#[32,115,101,110,100,32] } : ByteArray).size:=by rw[hP3,ByteArray.size_append]
 have HP3:=qh hP3.symm;obtain⟨P4,hP4⟩:=ex9 (P3++XC);have sP4:P4.size=(P3:ByteArray).size+(XC:ByteArray).size:=by rw[hP4,ByteArray.size_append]
 have HP4:=qh hP4.symm;obtain⟨P5,hP5⟩:=ex9 (P4++{ data:=#[32,118,105,97,32] });have sP5:P5.size=(P4:ByteArray).size+({ data:=#[32,118,105,97,32] } : ByteArray).size:=by rw[hP5,ByteArray.size_append]
 have HP5:=qh hP5.symm;obtain⟨P6,hP6⟩:=ex9 (P5++XR);have sP6:P6.size=(P5:ByteArray).size+(XR:ByteArray).size:=by rw[hP6,ByteArray.size_append]
 have HP6:=qh hP6.symm
 have HCT:Hid (({ data:=#[114,101,116,114,121,32] } : ByteArray).size+(XA:ByteArray).size≤9223372036854775807∧(P0:ByteArray).size+({ data:=#[32,101,118,101,114,121,32] } : ByteArray).size≤9223372036854775807∧(P1:ByteArray).size+(XB:ByteArray).size≤9223372036854775807∧(P2:ByteArray).size+({ data:=#[32,115,101,110,100,32] } : ByteArray).size≤9223372036854775807∧(P3:ByteArray).size+(XC:ByteArray).size≤9223372036854775807∧(P4:ByteArray).size+({ data:=#[32,118,105,97,32] } : ByteArray).size≤9223372036854775807∧(P5:ByteArray).size+(XR:ByteArray).size≤9223372036854775807∧(P6:ByteArray).size+(XT:ByteArray).size≤9223372036854775807∧True):=by
  simp only[List.length_append]at hl;refine⟨?_,?_,?_,?_,?_,?_,?_,?_,trivial⟩ <;> omega
 have HV:Hid ({ data:=#[114,101,116,114,121,32] }++XA++{ data:=#[32,101,118,101,114,121,32] }++XB++{ data:=#[32,115,101,110,100,32] }++XC++{ data:=#[32,118,105,97,32] }++XR++XT=bytesOf ([114,101,116,114,121,32]++prE s.ea++[32,101,118,101,114,121,32]++prE s.eb++[32,115,101,110,100,32]++prE s.ec++[32,118,105,97,32]++prR s.routes++nmd t_as s.tag)):=by
  show _=_
  rw[eA,eB,eC,eR,eT,show({ data:=#[114,101,116,114,121,32] } : ByteArray)=bytesOf [114,101,116,114,121,32] from rfl,show({ data:=#[32,101,118,101,114,121,32] } : ByteArray)=bytesOf [32,101,118,101,114,121,32] from rfl,show({ data:=#[32,115,101,110,100,32] } : ByteArray)=bytesOf [32,115,101,110,100,32] from rfl,show({ data:=#[32,118,105,97,32] } : ByteArray)=bytesOf [32,118,105,97,32] from rfl];simp only[zab]
 obtain⟨V,hV⟩:=ex9 (bytesOf ([114,101,116,114,121,32]++prE s.ea++[32,101,118,101,114,121,32]++prE s.eb++[32,115,101,110,100,32]++prE s.ec++[32,118,105,97,32]++prR s.routes++nmd t_as s.tag));rw[←hV]at HV ⊢;have HV9:=HV;clear HV
 have HV:Hid (P6++XT=V):=by
  show _=_
  rw[←HV9.out,hP6,hP5,hP4,hP3,hP2,hP1,hP0]
 clear HV9 hP0 sP0 hP1 sP1 hP2 sP2 hP3 sP3 hP4 sP4 hP5 sP5 hP6 sP6;obtain⟨C,hC⟩:=ex9 (stC s p);have HCL:Hid (C.length=26):=by show _=_;rw[hC];rfl
 have k0:C[0]? = some (.string k_retry):=by rw[hC,←hk];rfl
 obtain⟨CA,hCA⟩:=ex9 (exC s.ea p.a);have kA:∀j v,CA[j]? = some v→C[4+j]? = some v:=by rw[hC,hCA];exact stC_a s p
 have lA:Hid (CA.length=5):=by show _=_;rw[hCA];rfl
 rw[←hCA]at HXA;obtain⟨CB,hCB⟩:=ex9 (exC s.eb p.b);have kB:∀j v,CB[j]? = some v→C[9+j]? = some v:=by rw[hC,hCB];exact stC_b s p
 have lB:Hid (CB.length=5):=by show _=_;rw[hCB];rfl
 rw[←hCB]at HXB;obtain⟨CC,hCC⟩:=ex9 (exC s.ec p.c);have kC:∀j v,CC[j]? = some v→C[14+j]? = some v:=by rw[hC,hCC];exact stC_c s p
 have lC:Hid (CC.length=5):=by show _=_;rw[hCC];rfl
 rw[←hCC]at HXC;have kR:C[19]? = some (.slice p.r.1 s.routes.length p.r.2):=by rw[hC];rfl
 have kT:∀j v,(rfC s.tag)[j]? = some v→C[22+j]? = some v:=by rw[hC];exact stC_t s p
 obtain⟨O,hO⟩:=ex9 (Obj.cells C.toArray 42 (0,0))
 have HLD:Hid (∀W,Below (w.heap.size+1) (w.alloc (.cells C.toArray 42)) W→W.rangeAt w.heap.size 4 CA∧W.rangeAt w.heap.size 9 CB∧W.rangeAt w.heap.size 14 CC∧W.cell? ⟨w.heap.size,19,none⟩=some (.slice p.r.1 s.routes.length p.r.2)∧W.rangeAt w.heap.size 22 (rfC s.tag)∧Below w.heap.size w W):=fun W hW=>by
  have hB:Blk W w.heap.size 42 C:=(Blk.new w 42 C).below hW om;exact⟨(hB.mid 4 _ kA),(hB.mid 9 _ kB),(hB.mid 14 _ kC),((hB.cell 19).trans kR),(hB.mid 22 _ kT),((Below.refl w.heap.size w).alloc lr _).trans (hW.mono (Nat.le_succ _))⟩
 have c0:(w.alloc (.cells C.toArray 42)).cell? ⟨w.heap.size,0,none⟩=some (.string k_retry):=((Blk.new w 42 C).cell 0).trans k0;have hsz:(w.alloc (.cells C.toArray 42)).heap.size=w.heap.size+1:=by simp
 clear hin hl HD hV hO hXA eA zA hXB eB zB hXC eC zC hXR eR zR hXT eT zT y0 y1 y2 y3 kA kB kC kR kT k0;rw[←hC];clear hk hC hCA hCB hCC
 go_enter Tryz.func77, Tryz.ntmps77
 go_upto_region 13 with fail
 obtain⟨W0,hW0⟩:=ex9 (w.alloc (.cells C.toArray 42));rw[←hW0]at HLD hsz ⊢;clear hW0 c0;have hT:Below W0.heap.size W0 W0.drew:=Below.drew (Below.refl _ _);rw[←hsz]at HLD;refine kgo kr 23 (fun W=>Below W0.heap.size W0 W) hT (fun _ _ _ _ _ h=>h) ?_;refine kp 0 (.pointer (some ⟨w.heap.size,4,none⟩)) rfl kr (fun _=>kr) ?_;refine kl 1 (.agg CA.toArray) rfl kr (fun w' hw'=>zac rfl kr (run_loadAt_mid w' w.heap.size 4 39 CA _ (HLD.out w' hw').1 Tryz.underlying39 rfl (by rw[lA.out];exact hdEx))) ?_;refine kp 5 (.pointer (some ⟨w.heap.size,9,none⟩)) rfl kr (fun _=>kr) ?_;refine kl 6 (.agg CB.toArray) rfl kr (fun w' hw'=>zac rfl kr (run_loadAt_mid w' w.heap.size 9 39 CB _ (HLD.out w' hw').2.1 Tryz.underlying39 rfl (by rw[lB.out];exact hdEx))) ?_;refine kp 10 (.pointer (some ⟨w.heap.size,14,none⟩)) rfl kr (fun _=>kr) ?_;refine kl 11 (.agg CC.toArray) rfl kr (fun w' hw'=>zac rfl kr (run_loadAt_mid w' w.heap.size 14 39 CC _ (HLD.out w' hw').2.2.1 Tryz.underlying39 rfl (by rw[lC.out];exact hdEx))) ?_;refine kp 15 (.pointer (some ⟨w.heap.size,19,none⟩)) rfl kr (fun _=>kr) ?_;refine kl 16 (.slice p.r.1 s.routes.length p.r.2) rfl kr (fun w' hw'=>zah (t:=40) (x:=.tmp 80) rr kr agRfs (HLD.out w' hw').2.2.2.1) ?_;refine kp 19 (.pointer (some ⟨w.heap.size,22,none⟩)) rfl kr (fun _=>kr) ?_;refine kl 20 (.agg (rfC s.tag).toArray) rfl kr (fun w' hw'=>zac rfl kr (run_loadAt_mid w' w.heap.size 22 36 (rfC s.tag) _ (HLD.out w' hw').2.2.2.2.1 Tryz.underlying36 rfl hdRf)) ?_;intro q8 q9;clear q8 q9;refine AnyK.enter 2 (d:=some 67) (f:=37) (args:=#[.agg CA.toArray,.int .i64 0]) rr kr kr ?_;refine(HXA.out _ (HLD.out _ hT).2.2.2.2.2).mono ?_;rintro r w1 ⟨rfl,hB1⟩;have hT1:Below W0.heap.size W0 w1:=hT.trans hB1;refine⟨_,rfl,fun _=>hT1,?_⟩;refine AnyK.pure 3 (v:=.string P0) rfl kr (fun _ _ _ h=>h) rfl (fun _=>by rw[←HP0.out];exact zan rr kr kr HCT.out.1) (fun _=>hT1) ?_;refine AnyK.pure 4 (v:=.string P1) rfl kr (fun _ _ _ h=>h) rfl (fun _=>by rw[←HP1.out];exact zan rr kr kr HCT.out.2.1) (fun _=>hT1) ?_;refine AnyK.enter 7 (d:=some 72) (f:=37) (args:=#[.agg CB.toArray,.int .i64 0]) rr kr kr ?_;refine(HXB.out _ (HLD.out _ hT1).2.2.2.2.2).mono ?_;rintro r w2 ⟨rfl,hB2⟩;have hT2:Below W0.heap.size W0 w2:=hT1.trans (hB2.mono hT1.size);refine⟨_,rfl,fun _=>hT2,?_⟩;refine AnyK.pure 8 (v:=.string P2) rfl kr (fun _ _ _ h=>h) rfl (fun _=>by rw[←HP2.out];exact zan rr kr kr HCT.out.2.2.1) (fun _=>hT2) ?_;refine AnyK.pure 9 (v:=.string P3) rfl kr (fun _ _ _ h=>h) rfl (fun _=>by rw[←HP3.out];exact zan rr kr kr HCT.out.2.2.2.1) (fun _=>hT2) ?_;refine AnyK.enter 12 (d:=some 77) (f:=37) (args:=#[.agg CC.toArray,.int .i64 0]) rr kr kr ?_;refine(HXC.out _ (HLD.out _ hT2).2.2.2.2.2).mono ?_;rintro r w3 ⟨rfl,hB3⟩;have hT3:Below W0.heap.size W0 w3:=hT2.trans (hB3.mono hT2.size);refine⟨_,rfl,fun _=>hT3,?_⟩;refine AnyK.pure 13 (v:=.string P4) rfl kr (fun _ _ _ h=>h) rfl (fun _=>by rw[←HP4.out];exact zan rr kr kr HCT.out.2.2.2.2.1) (fun _=>hT3) ?_;refine AnyK.pure 14 (v:=.string P5) rfl kr (fun _ _ _ h=>h) rfl (fun _=>by rw[←HP5.out];exact zan rr kr kr HCT.out.2.2.2.2.2.1) (fun _=>hT3) ?_;refine AnyK.enter 17 (d:=some 82) (f:=102) (args:=#[.slice p.r.1 s.routes.length p.r.2]) rr kr kr ?_;refine(HXR.out _ (HLD.out _ hT3).2.2.2.2.2).mono ?_;rintro r w4 ⟨rfl,hB4⟩;have hT4:Below W0.heap.size W0 w4:=hT3.trans (hB4.mono hT3.size);refine⟨_,rfl,fun _=>hT4,?_⟩;refine AnyK.pure 18 (v:=.string P6) rfl kr (fun _ _ _ h=>h) rfl (fun _=>by rw[←HP6.out];exact zan rr kr kr HCT.out.2.2.2.2.2.2.1) (fun _=>hT4) ?_;refine AnyK.enter 21 (d:=some 86) (f:=103) (args:=#[.string k_as,.agg (rfC s.tag).toArray]) rr kr kr ?_;refine(HXT.out _).mono ?_;rintro r w5 ⟨rfl,hB5⟩;have hT5:Below W0.heap.size W0 w5:=hT4.trans (hB5.mono hT4.size);refine⟨_,rfl,fun _=>hT5,?_⟩;refine AnyK.pure 22 (v:=.string V) rfl kr (fun _ _ _ h=>h) rfl (fun _=>by rw[←HV.out];exact zan rr kr kr HCT.out.2.2.2.2.2.2.2.1) (fun _=>hT5) ?_;refine AnyK.val 23 (v:=.string V) rr kr rfl kr (fun h=>(by cases h)) ?_;refine AnyK.val 24 (v:=.bool false) rr kr rfl kr (fun h=>(by cases h)) ?_;have HB9:Hid (Below w.heap.size w _):=(HLD.out _ hT5).2.2.2.2.2;refine AnyK.done ?_ ?_
 · kernel_rfl
 clear HV HCT HLD hsz hT hT1 hB1 hT2 hB2 hT3 hB3 hT4 hB4 hT5 hB5 HXA HXB HXC HXR HXT;simp only[List.getElem_toArray,List.getElem_cons_zero,List.getElem_cons_succ,Act.put,List.setIfInBounds_toArray,List.set_cons_succ,List.set_cons_zero];go_wp2;refine bodyPost_ret (results_tmp2 rfl _ _ _) rfl ?_;exact⟨rfl,HB9.out⟩
theorem zj1{F:Nat→Prop}(s:St)(p:StA)(hk:s.kind=k_every)(hin:LInA F w s p)(hl:(rHd s).length+10≤1000000000000000):Calls Tryz.prog 77 #[.agg (stC s p).toArray] w fun r w'=>r=.returned (.tuple #[.string (bytesOf (rHd s)),.bool false])∧Below w.heap.size w w':=by
 have HD:rHd s=[101,118,101,114,121,32]++prE s.ea++[32,116,105,109,101,115,32]++prE s.eb++[32,99,111,118,101,114,32]++prR s.routes:=by
  unfold rHd
  rw[hk]
  first|rfl|(unfold prLine;rfl)
 rw[HD]at hl ⊢;obtain⟨XA,hXA⟩:=ex9 (bytesOf (prE s.ea));have eA:=hXA
 have HXA:Hid (RW w 37 [.agg (exC s.ea p.a).toArray,.int .i64 0] XA):=fun W hW=>by
  have h1:=zbn hin.oa p.a 0 W om (by simp only[List.length_append]at hl;omega) (hin.a.keep (Keep.of_below hW F))
  unfold rxR at h1
  rw[hXA]
  simpa[par] using h1
 obtain⟨XB,hXB⟩:=ex9 (bytesOf (prE s.eb));have eB:=hXB
 have HXB:Hid (RW w 37 [.agg (exC s.eb p.b).toArray,.int .i64 0] XB):=fun W hW=>by
  have h1:=zbn hin.ob p.b 0 W om (by simp only[List.length_append]at hl;omega) (hin.b.keep (Keep.of_below hW F))
  unfold rxR at h1
  rw[hXB]
  simpa[par] using h1
 obtain⟨XR,hXR⟩:=ex9 (bytesOf (prR s.routes));have eR:=hXR
 have HXR:Hid (RW w 102 [.slice p.r.1 s.routes.length p.r.2] XR):=fun W hW=>by
  rw[hXR];exact zc0 p.r.1 s.routes _ p.r.2 rfl hin.hr W (hin.r.keep (Keep.of_below hW F)) (by simp only[List.length_append]at hl;omega)
 have zA:XA.size≤(prE s.ea).length:=by rw[eA,sz_b];exact lr
 have ZZA:Hid (XA.size≤1000000000000000):=by show _≤_;simp only[List.length_append]at hl;omega
 have zB:XB.size≤(prE s.eb).length:=by rw[eB,sz_b];exact lr
 have ZZB:Hid (XB.size≤1000000000000000):=by show _≤_;simp only[List.length_append]at hl;omega
 have zR:XR.size≤(prR s.routes).length:=by rw[eR,sz_b];exact lr
 have ZZR:Hid (XR.size≤1000000000000000):=by show _≤_;simp only[List.length_append]at hl;omega
 have y0:({ data:=#[101,118,101,114,121,32] } : ByteArray).size≤30:=by decide
 have y1:({ data:=#[32,116,105,109,101,115,32] } : ByteArray).size≤30:=by decide
 have y2:({ data:=#[32,99,111,118,101,114,32] } : ByteArray).size≤30:=by decide
 have HCT:Hid (({ data:=#[101,118,101,114,121,32] } : ByteArray).size+(XA:ByteArray).size≤9223372036854775807∧({ data:=#[101,118,101,114,121,32] }++XA:ByteArray).size+({ data:=#[32,116,105,109,101,115,32] } : ByteArray).size≤9223372036854775807∧({ data:=#[101,118,101,114,121,32] }++XA++{ data:=#[32,116,105,109,101,115,32] } : ByteArray).size+(XB:ByteArray).size≤9223372036854775807∧({ data:=#[101,118,101,114,121,32] }++XA++{ data:=#[32,116,105,109,101,115,32] }++XB:ByteArray).size+({ data:=#[32,99,111,118,101,114,32] } : ByteArray).size≤9223372036854775807∧({ data:=#[101,118,101,114,121,32] }++XA++{ data:=#[32,116,105,109,101,115,32] }++XB++{ data:=#[32,99,111,118,101,114,32] } : ByteArray).size+(XR:ByteArray).size≤9223372036854775807∧True):=by
  simp only[List.length_append]at hl;refine⟨?_,?_,?_,?_,?_,trivial⟩ <;> (try simp only[ByteArray.size_append]) <;> omega
 have HV:Hid ({ data:=#[101,118,101,114,121,32] }++XA++{ data:=#[32,116,105,109,101,115,32] }++XB++{ data:=#[32,99,111,118,101,114,32] }++XR=bytesOf ([101,118,101,114,121,32]++prE s.ea++[32,116,105,109,101,115,32]++prE s.eb++[32,99,111,118,101,114,32]++prR s.routes)):=by
  show _=_
  rw[eA,eB,eR,show({ data:=#[101,118,101,114,121,32] } : ByteArray)=bytesOf [101,118,101,114,121,32] from rfl,show({ data:=#[32,116,105,109,101,115,32] } : ByteArray)=bytesOf [32,116,105,109,101,115,32] from rfl,show({ data:=#[32,99,111,118,101,114,32] } : ByteArray)=bytesOf [32,99,111,118,101,114,32] from rfl];simp only[zab]
 obtain⟨V,hV⟩:=ex9 (bytesOf ([101,118,101,114,121,32]++prE s.ea++[32,116,105,109,101,115,32]++prE s.eb++[32,99,111,118,101,114,32]++prR s.routes));rw[←hV]at HV ⊢;obtain⟨C,hC⟩:=ex9 (stC s p);have HCL:Hid (C.length=26):=by show _=_;rw[hC];rfl
 have k0:C[0]? = some (.string k_every):=by rw[hC,←hk];rfl
 obtain⟨CA,hCA⟩:=ex9 (exC s.ea p.a);have kA:∀j v,CA[j]? = some v→C[4+j]? = some v:=by rw[hC,hCA];exact stC_a s p
 have lA:Hid (CA.length=5):=by show _=_;rw[hCA];rfl
 rw[←hCA]at HXA;obtain⟨CB,hCB⟩:=ex9 (exC s.eb p.b);have kB:∀j v,CB[j]? = some v→C[9+j]? = some v:=by rw[hC,hCB];exact stC_b s p
 have lB:Hid (CB.length=5):=by show _=_;rw[hCB];rfl
 rw[←hCB]at HXB;have kR:C[19]? = some (.slice p.r.1 s.routes.length p.r.2):=by rw[hC];rfl
 obtain⟨O,hO⟩:=ex9 (Obj.cells C.toArray 42 (0,0))
 have HLD:Hid (∀W,Below (w.heap.size+1) (w.alloc (.cells C.toArray 42)) W→W.rangeAt w.heap.size 4 CA∧W.rangeAt w.heap.size 9 CB∧W.cell? ⟨w.heap.size,19,none⟩=some (.slice p.r.1 s.routes.length p.r.2)∧Below w.heap.size w W):=fun W hW=>by
  have hB:Blk W w.heap.size 42 C:=(Blk.new w 42 C).below hW om;exact⟨(hB.mid 4 _ kA),(hB.mid 9 _ kB),((hB.cell 19).trans kR),((Below.refl w.heap.size w).alloc lr _).trans (hW.mono (Nat.le_succ _))⟩
 have c0:(w.alloc (.cells C.toArray 42)).cell? ⟨w.heap.size,0,none⟩=some (.string k_every):=((Blk.new w 42 C).cell 0).trans k0;have hsz:(w.alloc (.cells C.toArray 42)).heap.size=w.heap.size+1:=by simp
 clear hin hl HD hV hO hXA eA zA hXB eB zB hXR eR zR y0 y1 y2 kA kB kR k0;rw[←hC];clear hk hC hCA hCB
 go_enter Tryz.func77, Tryz.ntmps77
 go_upto_region 15 with fail
 obtain⟨W0,hW0⟩:=ex9 (w.alloc (.cells C.toArray 42));rw[←hW0]at HLD hsz ⊢;clear hW0 c0;have hT:Below W0.heap.size W0 W0.drew:=Below.drew (Below.refl _ _);rw[←hsz]at HLD;refine kgo kr 14 (fun W=>Below W0.heap.size W0 W) hT (fun _ _ _ _ _ h=>h) ?_;refine kp 0 (.pointer (some ⟨w.heap.size,4,none⟩)) rfl kr (fun _=>kr) ?_;refine kl 1 (.agg CA.toArray) rfl kr (fun w' hw'=>zac rfl kr (run_loadAt_mid w' w.heap.size 4 39 CA _ (HLD.out w' hw').1 Tryz.underlying39 rfl (by rw[lA.out];exact hdEx))) ?_;refine kp 5 (.pointer (some ⟨w.heap.size,9,none⟩)) rfl kr (fun _=>kr) ?_;refine kl 6 (.agg CB.toArray) rfl kr (fun w' hw'=>zac rfl kr (run_loadAt_mid w' w.heap.size 9 39 CB _ (HLD.out w' hw').2.1 Tryz.underlying39 rfl (by rw[lB.out];exact hdEx))) ?_;refine kp 10 (.pointer (some ⟨w.heap.size,19,none⟩)) rfl kr (fun _=>kr) ?_;refine kl 11 (.slice p.r.1 s.routes.length p.r.2) rfl kr (fun w' hw'=>zah (t:=40) (x:=.tmp 100) rr kr agRfs (HLD.out w' hw').2.2.1) ?_;intro q8 q9;clear q8 q9;refine AnyK.enter 2 (d:=some 92) (f:=37) (args:=#[.agg CA.toArray,.int .i64 0]) rr kr kr ?_;refine(HXA.out _ (HLD.out _ hT).2.2.2).mono ?_;rintro r w1 ⟨rfl,hB1⟩;have hT1:Below W0.heap.size W0 w1:=hT.trans hB1;refine⟨_,rfl,fun _=>hT1,?_⟩;refine AnyK.pure 3 (v:=.string ({ data:=#[101,118,101,114,121,32] }++XA)) rfl kr (fun _ _ _ h=>h) rfl (fun _=>zan rr kr kr HCT.out.1) (fun _=>hT1) ?_;refine AnyK.pure 4 (v:=.string ({ data:=#[101,118,101,114,121,32] }++XA++{ data:=#[32,116,105,109,101,115,32] })) rfl kr (fun _ _ _ h=>h) rfl (fun _=>zan rr kr kr HCT.out.2.1) (fun _=>hT1) ?_;refine AnyK.enter 7 (d:=some 97) (f:=37) (args:=#[.agg CB.toArray,.int .i64 0]) rr kr kr ?_;refine(HXB.out _ (HLD.out _ hT1).2.2.2).mono ?_;rintro r w2 ⟨rfl,hB2⟩;have hT2:Below W0.heap.size W0 w2:=hT1.trans (hB2.mono hT1.size);refine⟨_,rfl,fun _=>hT2,?_⟩;refine AnyK.pure 8 (v:=.string ({ data:=#[101,118,101,114,121,32] }++XA++{ data:=#[32,116,105,109,101,115,32] }++XB)) rfl kr (fun _ _ _ h=>h) rfl (fun _=>zan rr kr kr HCT.out.2.2.1) (fun _=>hT2) ?_;refine AnyK.pure 9 (v:=.string ({ data:=#[101,118,101,114,121,32] }++XA++{ data:=#[32,116,105,109,101,115,32] }++XB++{ data:=#[32,99,111,118,101,114,32] })) rfl kr (fun _ _ _ h=>h) rfl (fun _=>zan rr kr kr HCT.out.2.2.2.1) (fun _=>hT2) ?_;refine AnyK.enter 12 (d:=some 102) (f:=102) (args:=#[.slice p.r.1 s.routes.length p.r.2]) rr kr kr ?_;refine(HXR.out _ (HLD.out _ hT2).2.2.2).mono ?_;rintro r w3 ⟨rfl,hB3⟩;have hT3:Below W0.heap.size W0 w3:=hT2.trans (hB3.mono hT2.size);refine⟨_,rfl,fun _=>hT3,?_⟩;refine AnyK.pure 13 (v:=.string V) rfl kr (fun _ _ _ h=>h) rfl (fun _=>by rw[←HV.out];exact zan rr kr kr HCT.out.2.2.2.2.1) (fun _=>hT3) ?_;refine AnyK.val 14 (v:=.string V) rr kr rfl kr (fun h=>(by cases h)) ?_;refine AnyK.val 15 (v:=.bool false) rr kr rfl kr (fun h=>(by cases h)) ?_;have HB9:Hid (Below w.heap.size w _):=(HLD.out _ hT3).2.2.2;refine AnyK.done ?_ ?_
 · kernel_rfl
 clear HV HCT HLD hsz hT hT1 hB1 hT2 hB2 hT3 hB3 HXA HXB HXR;simp only[List.getElem_toArray,List.getElem_cons_zero,List.getElem_cons_succ,Act.put,List.setIfInBounds_toArray,List.set_cons_succ,List.set_cons_zero];go_wp2;refine bodyPost_ret (results_tmp2 rfl _ _ _) rfl ?_;exact⟨rfl,HB9.out⟩
theorem zj4{F:Nat→Prop}(s:St)(p:StA)(hk:s.kind=k_after)(hin:LInA F w s p)(hl:(rHd s).length+10≤1000000000000000):Calls Tryz.prog 77 #[.agg (stC s p).toArray] w fun r w'=>r=.returned (.tuple #[.string (bytesOf (rHd s)),.bool true])∧Below w.heap.size w w':=by
 have HD:rHd s=[97,102,116,101,114,32]++prE s.ea:=by
  unfold rHd
  rw[hk]
  first|rfl|(unfold prLine;rfl)
 rw[HD]at hl ⊢;obtain⟨XA,hXA⟩:=ex9 (bytesOf (prE s.ea));have eA:=hXA
 have HXA:Hid (RW w 37 [.agg (exC s.ea p.a).toArray,.int .i64 0] XA):=fun W hW=>by
  have h1:=zbn hin.oa p.a 0 W om (by simp only[List.length_append]at hl;omega) (hin.a.keep (Keep.of_below hW F))
  unfold rxR at h1
  rw[hXA]
  simpa[par] using h1
 have zA:XA.size≤(prE s.ea).length:=by rw[eA,sz_b];exact lr
 have ZZA:Hid (XA.size≤1000000000000000):=by show _≤_;simp only[List.length_append]at hl;omega
 have y0:({ data:=#[97,102,116,101,114,32] } : ByteArray).size≤30:=by decide
 have HCT:Hid (({ data:=#[97,102,116,101,114,32] } : ByteArray).size+(XA:ByteArray).size≤9223372036854775807∧True):=by
  simp only[List.length_append]at hl;refine⟨?_,trivial⟩ <;> (try simp only[ByteArray.size_append]) <;> omega
 have HV:Hid ({ data:=#[97,102,116,101,114,32] }++XA=bytesOf ([97,102,116,101,114,32]++prE s.ea)):=by
  show _=_
  rw[eA,show({ data:=#[97,102,116,101,114,32] } : ByteArray)=bytesOf [97,102,116,101,114,32] from rfl];simp only[zab]
 obtain⟨V,hV⟩:=ex9 (bytesOf ([97,102,116,101,114,32]++prE s.ea));rw[←hV]at HV ⊢;obtain⟨C,hC⟩:=ex9 (stC s p);have HCL:Hid (C.length=26):=by show _=_;rw[hC];rfl
 have k0:C[0]? = some (.string k_after):=by rw[hC,←hk];rfl
 obtain⟨CA,hCA⟩:=ex9 (exC s.ea p.a);have kA:∀j v,CA[j]? = some v→C[4+j]? = some v:=by rw[hC,hCA];exact stC_a s p
 have lA:Hid (CA.length=5):=by show _=_;rw[hCA];rfl
 rw[←hCA]at HXA;obtain⟨O,hO⟩:=ex9 (Obj.cells C.toArray 42 (0,0))
 have HLD:Hid (∀W,Below (w.heap.size+1) (w.alloc (.cells C.toArray 42)) W→W.rangeAt w.heap.size 4 CA∧Below w.heap.size w W):=fun W hW=>by
  have hB:Blk W w.heap.size 42 C:=(Blk.new w 42 C).below hW om;exact⟨(hB.mid 4 _ kA),((Below.refl w.heap.size w).alloc lr _).trans (hW.mono (Nat.le_succ _))⟩
 have c0:(w.alloc (.cells C.toArray 42)).cell? ⟨w.heap.size,0,none⟩=some (.string k_after):=((Blk.new w 42 C).cell 0).trans k0;have hsz:(w.alloc (.cells C.toArray 42)).heap.size=w.heap.size+1:=by simp
 clear hin hl HD hV hO hXA eA zA y0 kA k0;rw[←hC];clear hk hC hCA
 go_enter Tryz.func77, Tryz.ntmps77
 have HT0:Hid (Below (w.heap.size+1) (w.alloc (.cells C.toArray 42)) (w.alloc (.cells C.toArray 42))):=Below.refl _ _;have ldA:(ldAt 39 (.pointer (some ⟨w.heap.size,4,none⟩))).run Tryz.prog (w.alloc (.cells C.toArray 42))=.ok (.agg CA.toArray) (w.alloc (.cells C.toArray 42)):=run_loadAt_mid (w.alloc (.cells C.toArray 42)) w.heap.size 4 39 CA _ (HLD.out _ HT0.out).1 Tryz.underlying39 rfl (by rw[lA.out];exact hdEx);have HV2:=HV;clear HV;have zzA:XA.size≤1000000000000000:=ZZA.out
 go_wp2_with (go_at_call 37;(refine(HXA.out _ (by exact(HLD.out _ HT0.out).2)).mono ?_);rintro r w2 ⟨rfl,hB2⟩;have H2:Hid (Below w.heap.size w w2):=(HLD.out _ HT0.out).2.trans (hB2.mono (HLD.out _ HT0.out).2.size);clear hB2)
 refine bodyPost_ret (results_tmp2 rfl _ _ _) rfl ?_;exact⟨by rw[←HV2.out];rfl,H2.out⟩
theorem ziw{F:Nat→Prop}(s:St)(p:StA)(hk:s.kind=k_repeat)(hin:LInA F w s p)(hl:(rHd s).length+10≤1000000000000000):Calls Tryz.prog 77 #[.agg (stC s p).toArray] w fun r w'=>r=.returned (.tuple #[.string (bytesOf (rHd s)),.bool true])∧Below w.heap.size w w':=by
 have HD:rHd s=[114,101,112,101,97,116,32]++tx s.name.name++[32]++prE s.ea:=by
  unfold rHd
  rw[hk]
  first|rfl|(unfold prLine;rfl)
 rw[HD]at hl ⊢;obtain⟨XN,hXN⟩:=ex9 (s.name.name);have eN:XN=bytesOf (tx s.name.name):=by rw[zaz];exact hXN
 obtain⟨XA,hXA⟩:=ex9 (bytesOf (prE s.ea));have eA:=hXA
 have HXA:Hid (RW w 37 [.agg (exC s.ea p.a).toArray,.int .i64 0] XA):=fun W hW=>by
  have h1:=zbn hin.oa p.a 0 W om (by simp only[List.length_append]at hl;omega) (hin.a.keep (Keep.of_below hW F))
  unfold rxR at h1
  rw[hXA]
  simpa[par] using h1
 have zN:XN.size≤(tx s.name.name).length:=by rw[eN,sz_b];exact lr
 have ZZN:Hid (XN.size≤1000000000000000):=by show _≤_;simp only[List.length_append]at hl;omega
 have zA:XA.size≤(prE s.ea).length:=by rw[eA,sz_b];exact lr
 have ZZA:Hid (XA.size≤1000000000000000):=by show _≤_;simp only[List.length_append]at hl;omega
 have y0:({ data:=#[114,101,112,101,97,116,32] } : ByteArray).size≤30:=by decide
 have y1:({ data:=#[32] } : ByteArray).size≤30:=by decide
 have HCT:Hid (({ data:=#[114,101,112,101,97,116,32] } : ByteArray).size+(XN:ByteArray).size≤9223372036854775807∧({ data:=#[114,101,112,101,97,116,32] }++XN:ByteArray).size+({ data:=#[32] } : ByteArray).size≤9223372036854775807∧({ data:=#[114,101,112,101,97,116,32] }++XN++{ data:=#[32] } : ByteArray).size+(XA:ByteArray).size≤9223372036854775807∧True):=by
  simp only[List.length_append]at hl;refine⟨?_,?_,?_,trivial⟩ <;> (try simp only[ByteArray.size_append]) <;> omega
 have HV:Hid ({ data:=#[114,101,112,101,97,116,32] }++XN++{ data:=#[32] }++XA=bytesOf ([114,101,112,101,97,116,32]++tx s.name.name++[32]++prE s.ea)):=by
  show _=_
  rw[eN,eA,show({ data:=#[114,101,112,101,97,116,32] } : ByteArray)=bytesOf [114,101,112,101,97,116,32] from rfl,show({ data:=#[32] } : ByteArray)=bytesOf [32] from rfl];simp only[zab]
 obtain⟨V,hV⟩:=ex9 (bytesOf ([114,101,112,101,97,116,32]++tx s.name.name++[32]++prE s.ea));rw[←hV]at HV ⊢;obtain⟨C,hC⟩:=ex9 (stC s p);have HCL:Hid (C.length=26):=by show _=_;rw[hC];rfl
 have k0:C[0]? = some (.string k_repeat):=by rw[hC,←hk];rfl
 have kN:C[2]? = some (.string XN):=by rw[hC,hXN];rfl
 obtain⟨CA,hCA⟩:=ex9 (exC s.ea p.a);have kA:∀j v,CA[j]? = some v→C[4+j]? = some v:=by rw[hC,hCA];exact stC_a s p
 have lA:Hid (CA.length=5):=by show _=_;rw[hCA];rfl
 rw[←hCA]at HXA;obtain⟨O,hO⟩:=ex9 (Obj.cells C.toArray 42 (0,0))
 have HLD:Hid (∀W,Below (w.heap.size+1) (w.alloc (.cells C.toArray 42)) W→W.cell? ⟨w.heap.size,2,none⟩=some (.string XN)∧W.rangeAt w.heap.size 4 CA∧Below w.heap.size w W):=fun W hW=>by
  have hB:Blk W w.heap.size 42 C:=(Blk.new w 42 C).below hW om;exact⟨((hB.cell 2).trans kN),(hB.mid 4 _ kA),((Below.refl w.heap.size w).alloc lr _).trans (hW.mono (Nat.le_succ _))⟩
 have c0:(w.alloc (.cells C.toArray 42)).cell? ⟨w.heap.size,0,none⟩=some (.string k_repeat):=((Blk.new w 42 C).cell 0).trans k0;have hsz:(w.alloc (.cells C.toArray 42)).heap.size=w.heap.size+1:=by simp
 clear hin hl HD hV hO hXN eN zN hXA eA zA y0 y1 kN kA k0;rw[←hC];clear hk hC hCA
 go_enter Tryz.func77, Tryz.ntmps77
 go_upto_region 19 with fail
 obtain⟨W0,hW0⟩:=ex9 (w.alloc (.cells C.toArray 42));rw[←hW0]at HLD hsz ⊢;clear hW0 c0;have hT:Below W0.heap.size W0 W0.drew:=Below.drew (Below.refl _ _);rw[←hsz]at HLD;refine kgo kr 9 (fun W=>Below W0.heap.size W0 W) hT (fun _ _ _ _ _ h=>h) ?_;refine kp 0 (.pointer (some ⟨w.heap.size,2,none⟩)) rfl kr (fun _=>kr) ?_;refine kp 1 (.pointer (some ⟨w.heap.size,2,none⟩)) rfl kr (fun _=>kr) ?_;refine kl 2 (.string XN) rfl kr (fun w' hw'=>zah (t:=9) (x:=.tmp 113) rr kr agStr (HLD.out w' hw').1) ?_;refine kp 5 (.pointer (some ⟨w.heap.size,4,none⟩)) rfl kr (fun _=>kr) ?_;refine kl 6 (.agg CA.toArray) rfl kr (fun w' hw'=>zac rfl kr (run_loadAt_mid w' w.heap.size 4 39 CA _ (HLD.out w' hw').2.1 Tryz.underlying39 rfl (by rw[lA.out];exact hdEx))) ?_;refine kp 3 (.string ({ data:=#[114,101,112,101,97,116,32] }++XN)) rfl kr (fun _=>zan rr kr kr HCT.out.1) ?_;refine kp 4 (.string ({ data:=#[114,101,112,101,97,116,32] }++XN++{ data:=#[32] })) rfl kr (fun _=>zan rr kr kr HCT.out.2.1) ?_;intro q8 q9;clear q8 q9;refine AnyK.enter 7 (d:=some 119) (f:=37) (args:=#[.agg CA.toArray,.int .i64 0]) rr kr kr ?_;refine(HXA.out _ (HLD.out _ hT).2.2).mono ?_;rintro r w1 ⟨rfl,hB1⟩;have hT1:Below W0.heap.size W0 w1:=hT.trans hB1;refine⟨_,rfl,fun _=>hT1,?_⟩;refine AnyK.pure 8 (v:=.string V) rfl kr (fun _ _ _ h=>h) rfl (fun _=>by rw[←HV.out];exact zan rr kr kr HCT.out.2.2.1) (fun _=>hT1) ?_;refine AnyK.val 9 (v:=.string V) rr kr rfl kr (fun h=>(by cases h)) ?_;refine AnyK.val 10 (v:=.bool true) rr kr rfl kr (fun h=>(by cases h)) ?_;have HB9:Hid (Below w.heap.size w _):=(HLD.out _ hT1).2.2;refine AnyK.done ?_ ?_
 · kernel_rfl
 clear HV HCT HLD hsz hT hT1 hB1 HXA;simp only[List.getElem_toArray,List.getElem_cons_zero,List.getElem_cons_succ,Act.put,List.setIfInBounds_toArray,List.set_cons_succ,List.set_cons_zero];go_wp2;refine bodyPost_ret (results_tmp2 rfl _ _ _) rfl ?_;exact⟨rfl,HB9.out⟩
theorem rl_ifA{F:Nat→Prop}(s:St)(p:StA)(hk:s.kind=k_if)(hin:LInA F w s p)(hl:(rHd s).length+10≤1000000000000000):Calls Tryz.prog 77 #[.agg (stC s p).toArray] w fun r w'=>r=.returned (.tuple #[.string (bytesOf (rHd s)),.bool true])∧Below w.heap.size w w':=by
 have HD:rHd s=[105,102,32,97,99,107,101,100,32]++tx s.tag.name:=by
  unfold rHd
  rw[hk]
  first|rfl|(unfold prLine;rfl)
 rw[HD]at hl ⊢;obtain⟨XG,hXG⟩:=ex9 (s.tag.name);have eG:XG=bytesOf (tx s.tag.name):=by rw[zaz];exact hXG
 have zG:XG.size≤(tx s.tag.name).length:=by rw[eG,sz_b];exact lr
 have ZZG:Hid (XG.size≤1000000000000000):=by show _≤_;simp only[List.length_append]at hl;omega
 have y0:({ data:=#[105,102,32,97,99,107,101,100,32] } : ByteArray).size≤30:=by decide
 have HCT:Hid (({ data:=#[105,102,32,97,99,107,101,100,32] } : ByteArray).size+(XG:ByteArray).size≤9223372036854775807∧True):=by
  simp only[List.length_append]at hl;refine⟨?_,trivial⟩ <;> (try simp only[ByteArray.size_append]) <;> omega
 have HV:Hid ({ data:=#[105,102,32,97,99,107,101,100,32] }++XG=bytesOf ([105,102,32,97,99,107,101,100,32]++tx s.tag.name)):=by
  show _=_
  rw[eG,show({ data:=#[105,102,32,97,99,107,101,100,32] } : ByteArray)=bytesOf [105,102,32,97,99,107,101,100,32] from rfl];simp only[zab]
 obtain⟨V,hV⟩:=ex9 (bytesOf ([105,102,32,97,99,107,101,100,32]++tx s.tag.name));rw[←hV]at HV ⊢;obtain⟨C,hC⟩:=ex9 (stC s p);have HCL:Hid (C.length=26):=by show _=_;rw[hC];rfl
 have k0:C[0]? = some (.string k_if):=by rw[hC,←hk];rfl
 have kG:C[22]? = some (.string XG):=by rw[hC,hXG];rfl
 obtain⟨O,hO⟩:=ex9 (Obj.cells C.toArray 42 (0,0))
 have HLD:Hid (∀W,Below (w.heap.size+1) (w.alloc (.cells C.toArray 42)) W→W.cell? ⟨w.heap.size,22,none⟩=some (.string XG)∧Below w.heap.size w W):=fun W hW=>by
  have hB:Blk W w.heap.size 42 C:=(Blk.new w 42 C).below hW om;exact⟨((hB.cell 22).trans kG),((Below.refl w.heap.size w).alloc lr _).trans (hW.mono (Nat.le_succ _))⟩
 have c0:(w.alloc (.cells C.toArray 42)).cell? ⟨w.heap.size,0,none⟩=some (.string k_if):=((Blk.new w 42 C).cell 0).trans k0;have hsz:(w.alloc (.cells C.toArray 42)).heap.size=w.heap.size+1:=by simp
 clear hin hl HD hV hO hXG eG zG y0 kG k0;rw[←hC];clear hk hC
 go_enter Tryz.func77, Tryz.ntmps77
 have HT0:Hid (Below (w.heap.size+1) (w.alloc (.cells C.toArray 42)) (w.alloc (.cells C.toArray 42))):=Below.refl _ _;have ldG:=(HLD.out _ HT0.out).1;have HV2:=HV;clear HV;have zzG:XG.size≤1000000000000000:=ZZG.out;have H2:=qh (HLD.out _ HT0.out).2;go_wp2;refine bodyPost_ret (results_tmp2 rfl _ _ _) rfl ?_;exact⟨by rw[←HV2.out];rfl,H2.out⟩
theorem zoy{F:Nat→Prop}(s:St)(p:StA)(h:s.kind ∉ [k_send,k_split,k_cover,k_wait,k_block,k_retry,k_every,k_after,k_repeat,k_if]):Calls Tryz.prog 77 #[.agg (stC s p).toArray] w fun r w'=>r=.returned (.tuple #[.string (bytesOf (rHd s)),.bool false])∧Below w.heap.size w w':=by
 simp only[List.mem_cons,List.not_mem_nil,or_false,not_or]at h;obtain⟨h1,h2,h3,h4,h5,h6,h7,h8,h9,h10⟩:=h
 have HP:Hid (rHd s=[63]):=by
  show _=_
  unfold rHd prLine
  rw[if_neg h8,if_neg h9,if_neg h10,if_neg h1,if_neg h2,if_neg h3,if_neg h4,if_neg h5,if_neg h6,if_neg h7]
 rw[HP.out];have HB0:Hid (Below w.heap.size w (w.alloc (.cells (stC s p).toArray 42))∧Blk (w.alloc (.cells (stC s p).toArray 42)) w.heap.size 42 (stC s p)):=⟨(Below.refl _ _).alloc lr _,Blk.new _ _ _⟩;have hk:(w.alloc (.cells (stC s p).toArray 42)).cell? ⟨w.heap.size,0,none⟩=some (.string s.kind):=HB0.out.2.cell 0;generalize s.kind=K at *;have s1:=strl h1;have s2:=strl h2;have s3:=strl h3;have s4:=strl h4;have s5:=strl h5;have s6:=strl h6;have s7:=strl h7;have s8:=strl h8;have s9:=strl h9;have s10:=strl h10;generalize stC s p=C at *;clear HP h1 h2 h3 h4 h5 h6 h7 h8 h9 h10
 go_enter Tryz.func77, Tryz.ntmps77
 go_wp2;refine bodyPost_ret (results_tmp2 rfl _ _ _) rfl ?_;exact⟨rfl,HB0.out.1⟩
theorem zfr{F:Nat→Prop}(s:St)(p:StA)(hin:LInA F w s p)(hl:(rHd s).length+10≤1000000000000000):Calls Tryz.prog 77 #[.agg (stC s p).toArray] w fun r w'=>r=.returned (.tuple #[.string (bytesOf (rHd s)),.bool (isB s)])∧Below w.heap.size w w':=by
 have hb0:s.kind≠k_after→s.kind≠k_repeat→s.kind≠k_if→isB s=false:=fun a b c=>isB_f a b c
 by_cases e8:s.kind=k_after
 · rw[isB_t (.inl e8)];exact zj4 _ p e8 hin hl
 by_cases e9:s.kind=k_repeat
 · rw[isB_t (.inr (.inl e9))];exact ziw _ p e9 hin hl
 by_cases e10:s.kind=k_if
 · rw[isB_t (.inr (.inr e10))];exact rl_ifA _ p e10 hin hl
 rw[hb0 e8 e9 e10]
 by_cases e1:s.kind=k_send
 · exact zml _ p e1 hin hl
 by_cases e2:s.kind=k_split
 · exact zjz _ p e2 hin hl
 by_cases e3:s.kind=k_cover
 · exact zj2 _ p e3 hin hl
 by_cases e4:s.kind=k_wait
 · exact zmk _ p e4 hin hl
 by_cases e5:s.kind=k_block
 · exact zj3 _ p e5 hin hl
 by_cases e6:s.kind=k_retry
 · exact zj0 _ p e6 hin hl
 by_cases e7:s.kind=k_every
 · exact zj1 _ p e7 hin hl
 exact zoy (F:=F) s p (by simp[e1,e2,e3,e4,e5,e6,e7,e8,e9,e10])
end
end
end Go.Proofs.YtafjkbbiaopemaaGreatDoor.Tr
