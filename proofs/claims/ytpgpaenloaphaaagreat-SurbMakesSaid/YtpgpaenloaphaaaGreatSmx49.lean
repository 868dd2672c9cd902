/- Part of the proof. -/
import Derived.Test.YtpgpaenloaphaaaGreatSmx48
set_option maxRecDepth 100000
set_option maxHeartbeats 0
namespace Go.Proofs.YtpgpaenloaphaaaGreat
open Go.RowKit
section
theorem zu2{k:Nat}: (u8s (List.replicate k 0)).length=k:=by rw[zaa,lp9]
theorem zc_u8(k:Nat):Builtin.zeroCells (Value.int .u8 0).cells k=(u8s (List.replicate k 0)).toArray:=by
 have h:Builtin.zeroCells (Value.int .u8 0).cells k=madeCells [Value.int .u8 0].toArray (k * [Value.int .u8 0].length):=rfl;rw[h,zhe _ sy]
 congr 1
 simp[u8s,u8]
theorem zoa{P:Program}(w:World)(base:Nat)(t tn ty e:TypeId)(kn:IntKind)(ht:P.underlying t=some (.slice e))(htn:P.underlying tn=some (.int kn))(i:TypeInfo)(hi:P.info? e=some i)(hz:i.zero=some (.int .u8 0))(hsi:i.size=1)(hby:i.bytes=1)
 (v:Value) (n:Nat) (xs:List Value) (hown:w.ownsRow base e 1 v n xs) (hn:n≤100000) (k:Nat) (hk0:0<k) (hk1:k≤1000) (hbase:base≤w.heap.size):
 ∃v' w',(Builtin.append_ #[t,tn] ty #[v,.int .i64 (k:Int)]).run P w=.ok v' w'∧w'.ownsRow base e 1 v' (n+k) (xs++(u8s (List.replicate k 0)))∧w.grownBy w' v.ownBlock∧(v'.ownBlock=v.ownBlock∨v'.ownBlock=some w.heap.size):=by
 have hlen:(xs++(u8s (List.replicate k 0))).length=(n+k)*1:=by rw[la9,hown.1,zu2];omega
 have grown:∀(old:Nat),old<n+k→∀(row:Option Nat),
     (w.drew.alloc (.cells (xs.toArray++Builtin.zeroCells (Value.int .u8 0).cells k++Builtin.zeroCells (Value.int .u8 0).cells (grownCap w (n+k) old e-(n+k))) e)).ownsRow base e 1
       (.slice (some ⟨w.heap.size,0,none⟩) (n+k) (grownCap w (n+k) old e)) (n+k) (xs++(u8s (List.replicate k 0))) ∧
     w.grownBy (w.drew.alloc (.cells (xs.toArray++Builtin.zeroCells (Value.int .u8 0).cells k++Builtin.zeroCells (Value.int .u8 0).cells (grownCap w (n+k) old e-(n+k))) e)) row:=by
  intro old ho row;have hge:=grownCap_ge w (n+k) old e;have hcm:grownCap w (n+k) old e≤maxLen:=grownCap_le_maxLen w (n+k) old e (by simp only[maxLen];omega);refine⟨⟨hlen,.inr ⟨w.heap.size,_,_,rfl,hbase,heap_alloc_new w.drew _,hge,hcm,?_,?_⟩⟩,⟨rfl,rfl,rfl,by simp,fun k hk _=>heap_alloc_old w.drew _ hk⟩⟩
  · simp only[Array.size_append,List.size_toArray,size_zeroCells,hown.1]
    simp[Value.cells]
    omega
  · rw[zc_u8]
    simp only[Array.toList_append,List.append_assoc];rw[←as9,←hlen];exact List.take_left
 have h63':((n+k:Nat):Int)≤9223372036854775807:=om
 rcases hown.2 with ⟨rfl,rfl⟩|⟨g,cap,cur,rfl,hbg,hg,hnc,hcm,hcs,htake⟩
 · have hx:xs=[]:=List.eq_nil_of_length_eq_zero (by simpa using hown.1)
   subst hx;have hr:=Lib.run_append_grow_zeros (P:=P) w t tn ty e i (.int .u8 0) .i64 kn ht htn hi hz none 0 0 [] (run_firstCells_none w.drew i.size 0 0 0) k om om om h63' (by rw[hby];omega) (growslice_fits om (by rw[hby];omega));have hgr:=grown 0 om (Value.ownBlock (.slice none 0 0));exact⟨_,_,hr,hgr.1,hgr.2,Or.inr rfl⟩
 · by_cases hroom:n+k≤cap
   · have hfit:n*i.size+(u8s (List.replicate k 0)).length≤cur.size:=by rw[zu2,hsi,hcs];omega
     have hr:=zct (P:=P) w t tn ty e i (.int .u8 0) .i64 kn ht htn hi hz g n cap cur hg k om om (u8s (List.replicate k 0)) (zc_u8 k) (zac _) hroom hfit om (by rw[hby];omega);refine⟨_,_,hr,⟨hlen,.inr ⟨g,cap,_,rfl,hbg,setRow_heap w g cur _ e _ hg,hroom,hcm,?_,?_⟩⟩,⟨rfl,rfl,rfl,by simp,fun k _ hk=>setRow_other w g k _ (fun e=>hk (by simp[Value.ownBlock,e]))⟩,Or.inl rfl⟩
     · simp only[List.size_toArray,List.length_append,List.length_take,List.length_drop,Array.length_toList]
       omega
     · rw[hsi,htake,←hlen]
       exact List.take_left
   · have holds:∀j u,xs[j]? = some u→w.cell? ((⟨g,0,none⟩:Addr).add j)=some u:=hown.cells (g:=g) rfl
     have hold:(Builtin.firstCells i.size n (.slice (some ⟨g,0,none⟩) n cap)).run P w.drew=.ok xs.toArray w.drew:=run_firstCells_some w.drew i.size n _ n cap xs (by rw[hsi];exact hown.1) (by simpa using holds);have hr:=Lib.run_append_grow_zeros (P:=P) w t tn ty e i (.int .u8 0) .i64 kn ht htn hi hz (some ⟨g,0,none⟩) n cap xs hold k om om om h63' (by rw[hby];omega) (growslice_fits om (by rw[hby];omega));have hgr:=grown cap om (Value.ownBlock (.slice (some ⟨g,0,none⟩) n cap));exact⟨_,_,hr,hgr.1,hgr.2,Or.inr rfl⟩
section
variable{w:World}{ops:Array Oper}{rest:List Oper}{o:Oper}{a:Act}{K:Act→World→Prop}{Q:Exit→Act→World→Prop}
theorem ziz(hgd:o.guard=none)(s y:Operand)(ho:o.op=.call { callee:=.builtin .append,args:=#[s,y],argTypes:=#[22,3] })
 (base:Nat) (v:Value) (n:Nat) (xs:List Value) (hs:a.eval s=v) (hown:w.ownsRow base 5 1 v n xs) (hn:n≤100000) (k:Nat) (ki:Int) (hy:a.eval y=.int .i64 ki) (hki:ki=(k:Int)) (hk0:0<k) (hk1:k≤1000) (hbase:base≤w.heap.size)
 (h:∀A' c' w',w'.ownsRow base 5 1 (.slice A' (n+k) c') (n+k) (xs++u8s (List.replicate k 0))→n+k≤c'→w.grownBy w' v.ownBlock→(Value.ownBlock (.slice A' (n+k) c')=v.ownBlock∨Value.ownBlock (.slice A' (n+k) c')=some w.heap.size)→wpList Tryz.prog ops Q rest (a.put o.dst (.slice A' (n+k) c')) w'):wpList Tryz.prog ops Q (o :: rest) a w:=by
 refine zb1 hgd fun _ hK=>?_
 obtain⟨i,hi,hz,hsi,hby⟩:=info8m;obtain⟨v',w',hrun,h2,h3,h4⟩:=zoa (P:=Tryz.prog) w base 22 3 o.type 5 .i64 Tryz.underlying22 Tryz.underlying3 i hi hz hsi hby v n xs hown hn k hk0 hk1 hbase;have hev : #[s,y].map a.eval=#[v,.int .i64 (k:Int)]:=by simp only[List.map_toArray,List.map_cons,List.map_nil,hs,hy,hki]
 obtain⟨A',c',rfl,hc⟩:=zjd h2;refine zci (zcw .append #[s,y] #[22,3] ho hev fun cs=>?_) (hK _ _ (h A' c' w' h2 hc h3 h4));simp only[builtin,Sem.run_bind,hrun,Sem.run_pure,Result.andThen_ok]
end
end
def OneV(B:Nat)(w:World)(v:Value)(n:Nat)(sc:List (List UInt8))(vs:List Value):Prop :=
 w.ownsRow B 22 1 v n vs∧sc.length=vs.length∧∀(i:Nat) (u:Value),vs[i]? = some u→∃l A c,u=.slice A 32 c∧32≤c∧sc[i]? = some l∧Rd w A 32 (u8s l)∧∀ad,A=some ad→v.ownBlock≠some ad.block
theorem OneV.nil(B:Nat)(w:World):OneV B w (.slice none 0 0) 0 [] []:=⟨World.ownsRow_nil _ _ _ _,rfl,fun i u hu=>by simp at hu⟩
theorem OneV.below{B n:Nat}{w w':World}{v:Value}{sc:List (List UInt8)}{vs:List Value}(h:OneV B w v n sc vs)(hB:Below w.heap.size w w'):OneV B w' v n sc vs:=by
 refine⟨zau h.1 hB,h.2.1,fun i u hu=>?_⟩;obtain⟨l,A,c,e,hc,hl,hr,ha⟩:=h.2.2 i u hu;exact⟨l,A,c,e,hc,hl,hr.below hB,ha⟩
theorem OneV.rdB{B n c:Nat}{w:World}{A:Option Addr}{sc:List (List UInt8)}{vs:List Value}(h:OneV B w (.slice A n c) n sc vs):RdB w A n sc:=by
 have hr:=Rd.of_own h.1;refine⟨vs,hr,by rw[h.2.1,hr.1],fun i v hv=>?_⟩;obtain⟨l,A,c,e,hc,hl,hr,_⟩:=h.2.2 i v hv;exact⟨l,hl,A,32,c,e,hc,hr⟩
theorem OneV.app{B n n' c:Nat}{w w':World}{v v':Value}{A:Option Addr}{sc:List (List UInt8)}{vs:List Value}{l:List UInt8}(h:OneV B w v n sc vs)(ho:w'.ownsRow B 22 1 v' n' (vs++[.slice A 32 c]))(hg:w.grownBy w' v.ownBlock)(hat:v'.ownBlock=v.ownBlock∨v'.ownBlock=some w.heap.size)
 (hc:32≤c) (hr:Rd w A 32 (u8s l)) (ha:∀ad,A=some ad→v.ownBlock≠some ad.block):OneV B w' v' n' (sc++[l]) (vs++[.slice A 32 c]):=by
 have hne:∀ad:Addr,ad.block<w.heap.size→v.ownBlock≠some ad.block→v'.ownBlock≠some ad.block:=fun ad a1 a4 e3=>by
  rcases hat with e|e
  · exact a4 (e ▸ e3)
  · rw[e]at e3
    injection e3 with e3
    omega
 refine⟨ho,by simp[h.2.1],fun i u hu=>?_⟩
 rcases Nat.lt_or_ge i vs.length with hi|hi
 · rw[ll9 hi]at hu
   obtain⟨l',A',c',e,hc',hl',hr',ha'⟩:=h.2.2 i u hu;exact⟨l',A',c',e,hc',by rw[ll9 (by rw[h.2.1];exact hi)];exact hl',hr'.grownR hg ha',fun ad e2=>hne ad (hr'.blk_lt om ad e2) (ha' ad e2)⟩
 · rw[ar9 hi]at hu
   have hi0:i-vs.length=0:=by
    have:=(gi9.1 hu).1
    simp at this
    omega
   rw[hi0]at hu;simp only[List.getElem?_cons_zero,Option.some.injEq]at hu;subst hu;exact⟨l,A,c,rfl,hc,by rw[ar9 (by rw[h.2.1];exact hi),h.2.1,hi0];rfl,hr.grownR hg ha,fun ad e2=>hne ad (hr.blk_lt om ad e2) (ha ad e2)⟩
theorem zki(A:Option Addr)(n c:Nat)(hs:List Ho)(w:World)(h:RdS 68 w A n (hs.flatMap Ho.cells))(hok:∀s∈hs,s.ok)(hl:hs.length=n)(hn:n≤1400000000000):
 Calls Tryz.prog 58 #[.slice A n c] w fun e w'=>∃A' c',e=.returned (.slice A' n c')∧RdB w' A' n (hs.map Ho.pub)∧Below w.heap.size w w':=by
 have HR:=qh h;have HK:=qh hok;have HL:=qh hl;clear h hok hl
 go_enter Tryz.func58, Tryz.ntmps58
 go_wp2
 go_loopg [3,4] n (fun kk q3 q wr=>∃(k:Nat) (A3:Option Addr) (c3:Nat) (vs:List Value),k≤n∧kk=n-k∧q=.int .i64 k∧q3=.slice A3 k c3∧Hid (OneV w.heap.size wr (.slice A3 k c3) k ((hs.take k).map Ho.pub) vs)∧Hid (Below w.heap.size w wr))
 case atStart=>exact⟨0,none,0,[],Nat.zero_le _,rfl,rfl,rfl,OneV.nil _ _,Below.refl _ _⟩
 case round =>
  obtain⟨k,A3,c3,vs,hkn,hgk,rfl,rfl,HV,HE⟩:=hrel;have HGK:=qh hgk;clear hgk
  by_cases hlt:k<n
  · have hlt2:(k:Int)<(n:Int):=om
    obtain⟨o,ho⟩:∃o,hs[k]? = some o:=⟨_,ge9 (by rw[HL.out];omega)⟩;have hoo:=HK.out o (mg9 ho);obtain⟨b,off,rfl,hb2,hrg⟩:=zbk (HR.out.bel HE.out lr) HK.out ho om
    have HRP:Hid (Rd wr (some ⟨b,off+k*68+34,none⟩) 32 (u8s o.pub)):=⟨by rw[zaa,hoo.2.2.1],fun _=>⟨b,off+k*68+34,rfl,hb2,fun j u hu=>by
     have hj:j<32:=by have:=(gi9.1 hu).1;rwa [zaa,hoo.2.2.1]at this
     have h5:=hrg (34+j) u (by
      have h6:=Ho.at_pub hoo;rw[←h6,List.getElem?_take,if_pos hj,List.getElem?_drop]at hu
      exact hu)
     rwa [show off+k*68+(34+j)=off+k*68+34+j by omega]at h5⟩⟩
    have HNX:Hid ((hs.take k).map Ho.pub++[o.pub]=(hs.take (k+1)).map Ho.pub):=by show _=_;rw[List.take_add_one,ho];simp
    generalize o.pub=PB at *;clear ho hoo hrg
    go_wp2_with (first
    | (go_at_call 12;(refine(zbs _ 32 32 PB _ (by exact HRP.out) om).mono ?_);rintro e w2 ⟨A2,c2,rfl,hc2,hown2,hB2⟩;have HE2:=qtr HE hB2;have HV2:=qh ((HV.out.below hB2).below ((Below.refl _ w2).alloc lr (.cells #[.slice A2 32 c2] 22)));have HR2:=qh (Rd.of_own hown2);have HC2:=qh hc2;have HA2:Hid (∀ad:Addr,A2=some ad→(Value.slice A3 k c3).ownBlock≠some ad.block):=fun ad e e2=>by have h1:=(hown2.lt ad.block (by rw[e];rfl)).1;have h2:=(HV.out.1.lt _ e2).2;omega
       clear hc2 hown2 hB2)
    | (at_builtin;refine zah rfl (.tmp 11) (.tmp 19) 87 rfl w.heap.size 22 1 24 Tryz.underlying87 eSl (.slice A3 k c3) k vs rr (by exact HV2.out.1) (some ⟨w2.heap.size,0,none⟩) 1 1 [.slice A2 32 c2] rr (by exact RdS.new w2 _ [.slice A2 32 c2] 1 rfl) (by intro v hv;simp at hv;rw[hv];rfl) om om (by have:=HE2.out.size;simp;omega) ?_;intro A4 c4 w4 hown4 hc4 hg4 hat4;have HE4:=qh ((HE2.out.alloc HE2.out.size _).grown hg4 (Nat.le_trans HE2.out.size sy) (fun k hk=>(HV2.out.1.lt k hk).1));have HV4:=qh (HV2.out.app hown4 hg4 (by simpa using hat4) HC2.out (HR2.out.alloc _) HA2.out);clear hown4 hc4 hg4 hat4))
    rw[HNX.out]at HV4;go_roundg (n-(k+1))
    case measure=>have:=HGK.out;omega
    case rel=>exact⟨k+1,A4,c4,_,by omega,rfl,by go_num,rfl,HV4,HE4⟩
  · obtain rfl:k=n:=om
    have hlt2:¬(k:Int)<(k:Int):=om
    have HF:Hid (RdB wr A3 k (hs.map Ho.pub)):=by
     have hp:=HV.out;rw[tk (by rw[HL.out];exact lr)]at hp;exact hp.rdB
    go_wp2;go_ret;exact⟨_,⟨_,rfl⟩,HF.out,HE.out⟩
section
attribute [local go_sem ↓] zcg zb0
theorem szRs(w:World):(sizeOf 27).run Tryz.prog w=.ok 192 w:=by kernel_rfl
theorem zup{o:Oper}{a:Act}{w:World}{x:Operand}{g off n c:Nat}(k:Nat)(ho:o.op=.slice 22 x none (some (.const (.int .i64 (k:Int)))) none)(hx:a.eval x=.slice (some ⟨g,off,none⟩) n c)(hk:k≤c):(execOp a.eval o).run Tryz.prog w=.ok (.value (.slice (some ⟨g,off,none⟩) k c)) w:=by
 unfold execOp
 have he:a.eval (.const (.int .i64 (k:Int)))=.int .i64 (k:Int):=rfl
 simp[ho,hx,he,Instr.sliceAt,Instr.slice,Instr.sliceBounds,Instr.sliceBound,asIntOf,run_underlying Tryz.underlying22,hk,Addr.add]
theorem zdy{w:World}{b off n:Nat}{ss:List Sp}(h:RdS 192 w (some ⟨b,off,none⟩) n (ss.flatMap Sp.cells))(hs:∀s∈ss,s.ok){i:Nat}{s:Sp}(hi:ss[i]? = some s)(hn:0<n)(o:Nat)(x:List UInt8)(hx:(s.bytes.drop o).take 32=x):b<w.heap.size∧w.rangeAt b (off+i*192+o) (u8s x):=by
 obtain⟨b2,o2,e2,hb2,hrg⟩:=ze2 h hs hi hn
 injection e2 with e2
 injection e2 with e2 e3
 subst e2;subst e3;refine⟨hb2,fun j v hv=>?_⟩
 have h5:=hrg (o+j) v (by
  rw[←hx,u8s_getElem?,List.getElem?_take]at hv
  split at hv
  · rw[Sp.cells,u8s_getElem?];rwa [List.getElem?_drop]at hv
  · cases hv)
 rwa [←Nat.add_assoc]at h5
theorem zi7{w:World}{b o:Nat}{l:List UInt8}(h:w.rangeAt b o (u8s l))(hb:b<w.heap.size)(n:Nat)(hn:l.length=n):Rd w (some ⟨b,o,none⟩) n (u8s l):=by
 have h5:=zet h hb 0 n om
 rwa [List.drop_zero,tk om,Nat.add_zero]at h5
theorem Rd.grown0{w w':World}{A:Option Addr}{n:Nat}{xs:List Value}{row:Option Nat}(h:Rd w A n xs)(hg:w.grownBy w' row)(hne:0<n→∀ad,A=some ad→row≠some ad.block):Rd w' A n xs:=by
 rcases Nat.eq_zero_or_pos n with rfl|hn
 · exact⟨h.1,fun h=>absurd h om⟩
 · exact h.grownR hg (hne hn)
theorem zqt(A B:Option Addr)(k c d:Nat)(cs:List Cm)(ss:List Sp)(w:World)(h1:RdS 20 w A (k+1) (cs.flatMap Cm.cells))(h2:RdS 192 w B (k+1) (ss.flatMap Sp.cells))(hcs:∀c∈cs,c.ok)(hss:∀s∈ss,s.ok)
 (hcl:cs.length=k+1) (hsl:ss.length=k+1) (he:berr cs (k+1)=0):
 Calls Tryz.prog 60 #[.slice A (k+1) c,.slice B (k+1) d] w fun e w'=>∃A' c',e=.returned (.tuple #[.slice A' 288 c',.int .i64 0])∧288≤c'∧w'.ownsRow w.heap.size 5 1 (.slice A' 288 c') 288 (u8s (hst cs ss (k+1) (k+1)))∧Below w.heap.size w w':=by
 obtain⟨hj1,hk5,hj2,hck⟩:=zk6 he;have hk:k≤4:=om;have HCK:=qh hck;have HCS:=qh hcs;have HSS:=qh hss;have HCL:=qh hcl;have HSL:=qh hsl;have HR1:=qh h1;have HR2:=qh h2;have HFL:=qh (zjw ss k om);have HHL:=qh (fun m hm=>zfq (n:=k+1) hcs hss hcl hsl hk5 m hm);obtain⟨b2,off2,rfl,hbb2,_⟩:=h2.2 om;have HFI:Hid (∀W,Below w.heap.size w W→Calls Tryz.prog 96 #[.slice (some ⟨b2,off2,none⟩) (k+1) d] W fun e w'=>∃A' c',e=.returned (.tuple #[.slice A' (48*k) c',.int .i64 0])∧48*k≤c'∧Rd w' A' (48*k) (u8s (fil ss k))∧Below W.heap.size W w'):=fun W hW=>zlk _ k d ss W (h2.bel hW lr) hss hsl hk
 have n0:¬((k:Int)+1=0):=om;have n5:¬((k:Int)+1>5):=om;clear h1 h2 hcs hss hcl hsl hck he hj1 hj2 hbb2
 go_enter Tryz.func60, Tryz.ntmps60
 go_wp2_with fail
 go_loopg [6,7,8] (k+1) (fun kk v6 v q wr=>∃(j:Nat) (A7:Option Addr) (c7:Nat) (vs:List Value),v6=.int .i64 0∧j≤k+1∧kk=k+1-j∧q=.int .i64 j∧v=.slice A7 j c7∧Hid (OneV w.heap.size wr (.slice A7 j c7) j ((cs.take j).map Cm.enc) vs)∧Hid (Below w.heap.size w wr))
 case atStart=>exact⟨0,none,0,[],rfl,Nat.zero_le _,rfl,rfl,rfl,OneV.nil _ _,Below.refl _ _⟩
 case round =>
  obtain⟨j,A7,c7,vs,rfl,hjk,hgk,rfl,rfl,HV,HE⟩:=hrel;have HGK:=qh hgk;clear hgk
  by_cases hlt:j<k+1
  · have hlt2:(j:Int)<(k:Int)+1:=om
    obtain⟨cm,hci⟩:∃c,cs[j]? = some c:=⟨_,ge9 (by rw[HCL.out];omega)⟩;have hcok:=HCS.out cm (mg9 hci);obtain⟨hch,hkind⟩:=HCK.out j cm hci;obtain⟨b,off,rfl,hb2,hrg⟩:=zj0 (HR1.out.bel HE.out lr) HCS.out hci om;have hld:(ldAt 47 (.pointer (some ⟨b,off+j*20,none⟩))).run Tryz.prog wr=.ok (.agg cm.cells.toArray) wr:=run_loadAt_mid wr b (off+j*20) 47 cm.cells _ hrg Tryz.underlying47 rfl (by rw[Cm.cells_len hcok];exact hd76c)
    have HEN:Hid (∀W,Calls Tryz.prog 95 #[.agg cm.cells.toArray] W fun e w'=>∃g c',e=.returned (.tuple #[.slice (some ⟨g,0,none⟩) 32 c',.int .i64 0])∧32≤c'∧W.heap.size≤g∧Rd w' (some ⟨g,0,none⟩) 32 (u8s cm.enc)∧Below W.heap.size W w'):=fun W=>by
     refine(ztj cm hcok hch W).mono ?_;rintro e w' ⟨A',c',rfl,hc',ho,hB⟩;obtain⟨g,rfl,hg,_,hr⟩:=zcl ho om;exact⟨g,c',rfl,hc',hg,hr,hB⟩
    have HKD:Hid (wr.cell? ⟨b,off+j*20,none⟩=some (.int .u8 (cm.k.toNat:Int))∧b<wr.heap.size):=⟨hrg 0 _ rfl,hb2⟩;have HNX:Hid ((cs.take j).map Cm.enc++[cm.enc]=(cs.take (j+1)).map Cm.enc):=by show _=_;rw[List.take_add_one,hci];simp
    have hways:(j<k∧cm.k=1)∨(j=k∧¬cm.k=1):=by
     rcases Nat.lt_or_ge j k with h|h
     · refine .inl ⟨h,?_⟩
       have e:decide (j+1=k+1)=false:=decide_eq_false om;rw[e]at hkind;exact Decidable.byContradiction fun h2=>hkind (decide_eq_false h2)
     · obtain rfl:j=k:=om
       refine .inr ⟨rfl,fun h2=>hkind ?_⟩;rw[decide_eq_true h2,decide_eq_true rfl]
    generalize cm.cells=CC at *;generalize cm.enc=CE at *;have HWY:Hid ((j<k∧cm.k=1)∨(j=k∧¬cm.k=1)):=hways;clear hci hcok hch hkind hrg hb2 hways
    rcases HWY.out with ⟨hjl,hk1⟩|⟨hjl,hk1⟩
    · have hq:((j:Int) == (k:Int))=false:=by rw[beq_eq_false_iff_ne];omega
      have hq2:¬(j:Int)=(k:Int):=om;rw[hk1]at HKD;clear hk1 HWY
      go_wp2_with (first
       | (go_at_call 95;(refine(HEN.out _).mono ?_);rintro e w2 ⟨g2,c2,rfl,hc2,hg2,hr2,hB2⟩;have HE2:=qtr HE hB2;have HV2:=qh ((HV.out.below hB2).below ((Below.refl _ w2).alloc lr (.cells #[.slice (some ⟨g2,0,none⟩) 32 c2] 22)));have HR2:=qh hr2;have HC2:=qh hc2;have HA2:Hid (∀ad:Addr,(some ⟨g2,0,none⟩:Option Addr)=some ad→(Value.slice A7 j c7).ownBlock≠some ad.block):=fun ad e e2=>by injection e with e;subst e;have h2:=(HV.out.1.lt _ e2).2;simp at h2;omega
          have d0:=(hB2.cell HKD.out.2).trans HKD.out.1
          clear hc2 hg2 hr2 hB2)
       | (at_builtin;refine zah rfl (.tmp 78) (.tmp 80) 87 rfl w.heap.size 22 1 24 Tryz.underlying87 eSl (.slice A7 j c7) j vs rr (by exact HV2.out.1) (some ⟨w2.heap.size,0,none⟩) 1 1 [.slice (some ⟨g2,0,none⟩) 32 c2] rr (by exact RdS.new w2 _ [.slice (some ⟨g2,0,none⟩) 32 c2] 1 rfl) (by intro v hv;simp at hv;rw[hv];rfl) om om (by have:=HE2.out.size;simp;omega) ?_;intro A4 c4 w4 hown4 hc4 hg4 hat4;have HE4:=qh ((HE2.out.alloc HE2.out.size _).grown hg4 (Nat.le_trans HE2.out.size sy) (fun k hk=>(HV2.out.1.lt k hk).1));have HV4:=qh (HV2.out.app hown4 hg4 (by simpa using hat4) HC2.out (HR2.out.alloc _) HA2.out);clear hown4 hc4 hg4 hat4))
      rw[HNX.out]at HV4;go_roundg (k+1-(j+1))
      case measure=>have:=HGK.out;omega
      case rel=>exact⟨j+1,A4,c4,_,rfl,by omega,rfl,by go_num,rfl,HV4,HE4⟩
    · have hq:((j:Int) == (k:Int))=true:=by rw[beq_iff_eq];omega
      have hkq:(((cm.k.toNat:Nat):Int) == 1)=false:=by rw[beq_eq_false_iff_ne];exact fun h=>hk1 (UInt8.toNat_inj.1 (by show _=1;omega))
      have hkq2:¬((cm.k.toNat:Nat):Int)=1:=fun h=>hk1 (UInt8.toNat_inj.1 (by show _=1;omega))
      have hjl2:=qh hjl;generalize cm.k.toNat=KK at *;clear hk1 HWY hjl
      go_wp2_with (first
       | (go_at_call 95;(refine(HEN.out _).mono ?_);rintro e w2 ⟨g2,c2,rfl,hc2,hg2,hr2,hB2⟩;have HE2:=qtr HE hB2;have HV2:=qh ((HV.out.below hB2).below ((Below.refl _ w2).alloc lr (.cells #[.slice (some ⟨g2,0,none⟩) 32 c2] 22)));have HR2:=qh hr2;have HC2:=qh hc2;have HA2:Hid (∀ad:Addr,(some ⟨g2,0,none⟩:Option Addr)=some ad→(Value.slice A7 j c7).ownBlock≠some ad.block):=fun ad e e2=>by injection e with e;subst e;have h2:=(HV.out.1.lt _ e2).2;simp at h2;omega
          have d0:=(hB2.cell HKD.out.2).trans HKD.out.1
          clear hc2 hg2 hr2 hB2)
       | (at_builtin;refine zah rfl (.tmp 78) (.tmp 80) 87 rfl w.heap.size 22 1 24 Tryz.underlying87 eSl (.slice A7 j c7) j vs rr (by exact HV2.out.1) (some ⟨w2.heap.size,0,none⟩) 1 1 [.slice (some ⟨g2,0,none⟩) 32 c2] rr (by exact RdS.new w2 _ [.slice (some ⟨g2,0,none⟩) 32 c2] 1 rfl) (by intro v hv;simp at hv;rw[hv];rfl) om om (by have:=HE2.out.size;simp;omega) ?_;intro A4 c4 w4 hown4 hc4 hg4 hat4;have HE4:=qh ((HE2.out.alloc HE2.out.size _).grown hg4 (Nat.le_trans HE2.out.size sy) (fun k hk=>(HV2.out.1.lt k hk).1));have HV4:=qh (HV2.out.app hown4 hg4 (by simpa using hat4) HC2.out (HR2.out.alloc _) HA2.out);clear hown4 hc4 hg4 hat4))
      rw[HNX.out]at HV4;go_roundg (k+1-(j+1))
      case measure=>have:=HGK.out;omega
      case rel=>exact⟨j+1,A4,c4,_,rfl,by omega,rfl,by go_num,rfl,HV4,HE4⟩
  · obtain rfl:j=k+1:=om
    have hlt2:¬((k+1:Nat):Int)<(k:Int)+1:=om;have hlt3:¬((k:Int)+1)<(k:Int)+1:=om
    have HSB:Hid (RdB wr A7 (k+1) (cs.map Cm.enc)):=by
     have h5:=HV.out.rdB
     rwa [tk (by rw[HCL.out];exact lr)]at h5
    obtain⟨s,hsi⟩:∃s,ss[k]? = some s:=⟨_,ge9 (by rw[HSL.out];omega)⟩;obtain⟨cm,hci⟩:∃c,cs[k]? = some c:=⟨_,ge9 (by rw[HCL.out];omega)⟩;have hok:=HSS.out s (mg9 hsi);have hcok:=HCS.out cm (mg9 hci);have HST:Hid (∀W,Below wr.heap.size wr W→RdS 192 W (some ⟨b2,off2,none⟩) (k+1) (ss.flatMap Sp.cells)):=fun W hW=>HR2.out.bel (HE.out.trans (hW.mono HE.out.size)) lr
    have HBL:Hid (∀W,Below wr.heap.size wr W→Below w.heap.size w W):=fun W hW=>HE.out.trans (hW.mono HE.out.size)
    have HSW:Hid (∀W,Below wr.heap.size wr W→RdB W A7 (k+1) (cs.map Cm.enc)):=fun W hW=>HSB.out.below hW
    obtain⟨b7,o7,A1,n1,c1,l1,rfl,hb7,HL1,hcl1,hnc1,hr1⟩:=HSB.out.at_ (k:=k) om;obtain rfl:l1=cm.enc:=by have h5:=HL1.out;rw[List.getElem?_map,hci]at h5;simpa using h5.symm
    obtain rfl:n1=32:=by rw[←hr1.len,Cm.enc_len hcok]
    have HCE:Hid (∀W,Below wr.heap.size wr W→W.cell? ⟨b7,o7+k,none⟩=some (.slice A1 32 c1)∧Rd W A1 32 (u8s cm.enc)):=fun W hW=>⟨(hW.cell hb7).trans hcl1,hr1.below hW⟩
    obtain⟨L,hL⟩:=ex9 (48*k);obtain⟨Z,hZ⟩:=ex9 (208-L);obtain⟨M,hM⟩:=ex9 (240-L);have HF2:Hid (∀W,Below w.heap.size w W→Calls Tryz.prog 96 #[.slice (some ⟨b2,off2,none⟩) (k+1) d] W fun e w'=>∃A' c',e=.returned (.tuple #[.slice A' L c',.int .i64 0])∧L≤c'∧Rd w' A' L (u8s (fil ss k))∧Below W.heap.size W w'):=by rw[hL];exact HFI.out
    have HCP:Hid (∀W,Rd W A1 32 (u8s cm.enc)→Calls Tryz.prog 12 #[.slice A1 32 c1] W fun e w'=>∃A' c',e=.returned (.slice A' 32 c')∧32≤c'∧w'.ownsRow W.heap.size 5 1 (.slice A' 32 c') 32 (u8s cm.enc)∧Below W.heap.size W w'):=fun W hW=>zbs _ 32 c1 _ W hW om
    have hZI:(240:Int)-(L:Int)-32=(Z:Int):=om;have hZ0:0<Z:=om;have hZ2:Z≤1000:=om;have hM9:M≤1000:=om;have hL9:L≤1000:=om;have HZM:Hid (32+Z=M):=by show _=_;omega
    have HML:Hid (M+L=240):=by show _=_;omega
    have HLK:Hid (L=48*k):=hL;have hP1:=HHL.out 1 om;obtain⟨P1,hPP⟩:=ex9 (hst cs ss (k+1) 1);have hh1:P1=headOf cm s (fil ss k) 0 (hst cs ss (k+1) 0):=by rw[hPP];exact zge (m:=0) (i:=k) om hci hsi
    rw[←hPP]at hP1;obtain⟨BT,hBT⟩:=ex9 (Ch.turn s.stream (cm.enc++List.replicate Z 0)++fil ss k);have hbeta:betaOf cm s (fil ss k) 0 (hst cs ss (k+1) 0)=BT:=by rw[hBT,betaOf,if_pos rfl,HFL.out,←hL,show 240-L-32=Z by omega]
    have hhd:P1=s.alpha++((Mc.tag s.mac (s.alpha++BT)).take 16++BT):=by rw[hh1,headOf,hbeta]
    have hal:=hok.2.2.2.2.1;have htl:((Mc.tag s.mac (s.alpha++BT)).take 16).length=16:=by rw[List.length_take,Mc.tag_len];rfl
    have HD48:Hid (P1.drop 48=BT):=by show _=_;rw[hhd,←as9,List.drop_left' (by rw[la9,hal,htl])]
    have HD32:Hid ((P1.drop 32).take 16=(Mc.tag s.mac (s.alpha++BT)).take 16):=by show _=_;rw[hhd,List.drop_left' hal,List.take_left' htl]
    have hbl:BT.length=240:=by rw[←HD48.out,List.length_drop,hP1]
    have HTU:Hid (∀W A3 c3,Rd W A3 M (u8s cm.enc++u8s (List.replicate Z 0))→Calls Tryz.prog 46 #[.agg (u8s s.stream).toArray,.int .i64 0,.slice A3 M c3] W fun e w'=>∃A' c',e=.returned (.slice A' M c')∧M≤c'∧w'.ownsRow W.heap.size 5 1 (.slice A' M c') M (u8s (Ch.turn s.stream (cm.enc++List.replicate Z 0)))∧Below W.heap.size W w'):=fun W A3 c3 h3=>zgv s.stream hok.2.1 A3 M c3 _ W (by rw[zae];exact h3) om om
    have HBTR:Hid (u8s (Ch.turn s.stream (cm.enc++List.replicate Z 0))++u8s (fil ss k)=u8s BT):=by show _=_;rw[←zae,hBT]
    have HTG:Hid (∀W,Below wr.heap.size wr W→∀A3 c3,Rd W A3 240 (u8s BT)→Calls Tryz.prog 50 #[.agg (u8s s.mac).toArray,.slice (some ⟨b2,off2+k*192+128,none⟩) 32 32,.slice A3 240 c3] W fun e w'=>∃A' c',e=.returned (.slice A' 16 c')∧16≤c'∧Rd w' A' 16 (u8s ((P1.drop 32).take 16))∧Below W.heap.size W w'):=fun W hW A3 c3 h3=>by
     rw[HD32.out];obtain⟨q1,q2⟩:=zdy (HST.out W hW) HSS.out hsi om 128 s.alpha (Sp.at_alpha hok);refine(zid s.mac hok.1 _ 32 32 s.alpha A3 240 c3 BT W (zi7 q2 q1 32 hal) h3 om om).mono ?_;rintro e w' ⟨A',c',rfl,hc',ho,hB'⟩;exact⟨A',c',rfl,hc',Rd.of_own ho,hB'⟩
    have HRS:Hid (∀W,Below wr.heap.size wr W→W.rangeAt b2 (off2+k*192+32) (u8s s.stream)):=fun W hW=>(zdy (HST.out W hW) HSS.out hsi om 32 s.stream (Sp.at_stream hok)).2
    have HRM:Hid (∀W,Below wr.heap.size wr W→W.rangeAt b2 (off2+k*192) (u8s s.mac)):=fun W hW=>(zdy (HST.out W hW) HSS.out hsi om 0 s.mac (Sp.at_mac hok)).2
    have hdS:(Tryz.prog.info? 23).map (·.size)=some (u8s s.stream).length:=by rw[zaa,hok.2.1];exact hd32
    have hdM:(Tryz.prog.info? 23).map (·.size)=some (u8s s.mac).length:=by rw[zaa,hok.1];exact hd32
    have hu32:=Tryz.underlying23;have HHH:Hid (hst cs ss (k+1) 1=P1):=hPP.symm;have HP48:Hid (u8s BT=u8s (P1.drop 48)):=by show _=_;rw[HD48.out]
    have HP0:Hid (0<k+1):=by show _<_;omega
    have hk0:(k:Int)<(k:Int)+1:=om;have hk00:(0:Int)≤(k:Int):=om;generalize fil ss k=FK at *;generalize u8s s.stream=KS at *;generalize u8s s.mac=KM at *;generalize u8s cm.enc=CE at *;generalize Ch.turn s.stream (cm.enc++List.replicate Z 0)=TU at *;have HTGE:Hid (u8s ((P1.drop 32).take 16)=u8s (((hst cs ss (k+1) 1).drop 32).take 16)):=by show _=_;rw[HHH.out]
    have HP4E:Hid (u8s BT=u8s ((hst cs ss (k+1) 1).drop 48)):=by show _=_;rw[HHH.out];exact HP48.out
    generalize u8s ((P1.drop 32).take 16)=TG at *;have HSB7:Hid (∀W,Below wr.heap.size wr W→b7<W.heap.size):=fun W hW=>Nat.lt_of_lt_of_le hb7 hW.size
    clear hsi hci hok hcok hb7 HL1 hcl1 hnc1 hr1 hL hZ hM hPP hh1 hbeta hhd hal htl hP1 hBT hbl HFI HV HSB HD32 HD48
    go_wp2_with (first
     | (go_at_call 96;(refine(HF2.out _ (by exact HE.out)).mono ?_);rintro e w2 ⟨A2,c2,rfl,hc2,hr2,hB2⟩;have HX2:Hid (Below wr.heap.size wr w2):=hB2;have HFR:=qh hr2;have q1:=(HCE.out _ hB2).1;have hs2:=hB2.size;clear hr2 hB2)
     | (go_at_call 12;(refine(HCP.out _ (by exact(HCE.out _ HX2.out).2)).mono ?_);rintro e w3 ⟨A3,c3,rfl,hc3,hown3,hB3⟩;have HO3:=qh hown3;have HX3:=qtr HX2 hB3;have HFR3:=qh (HFR.out.below hB3);have hs3:=hB3.size;clear hown3 hB3)
     | (refine ziz rfl (.tmp 97) (.tmp 101) rfl w2.heap.size (.slice A3 32 c3) 32 _ rr (by exact HO3.out) om Z _ rr rfl hZ0 hZ2 (by exact hs3) ?_;intro A4 c4 w4 hown4 hc4 hg4 hat4;rw[HZM.out]at hown4 ⊢;have HX4:=qh (HX3.out.grown hg4 HX3.out.size (fun g hg=>Nat.le_trans HX2.out.size (HO3.out.lt g hg).1));have HFR4:=qh (HFR3.out.grown0 hg4 (fun hn ad e e2=>by have h1:=(HO3.out.lt _ e2).1;have h2:=HFR.out.blk_lt hn ad e;omega));have HR4:=qh (Rd.of_own hown4);have hr4:=HRS.out _ HX4.out;clear hown4 hg4 hat4)
     | (refine wpList_load_mid rfl 23 (.tmp 108) rfl b2 (off2+k*192+32) rr KS _ hr4 Tryz.underlying23 rfl hdS ?_)
     | (go_at_call 46;(refine(HTU.out _ _ _ (by exact HR4.out)).mono ?_);rintro e w5 ⟨A5,c5,rfl,hc5,hown5,hB5⟩;have HX5:=qtr HX4 hB5;have HFR5:=qh (HFR4.out.below hB5);have HO5:=qh hown5;have hs5:=hB5.size;clear hown5 hB5)
     | (at_builtin;refine zah rfl (.tmp 111) (.tmp 112) 22 rfl w4.heap.size 5 1 1 Tryz.underlying22 eU8 (.slice A5 M c5) M _ rr (by exact HO5.out) A2 L c2 (u8s FK) rr (by exact HFR5.out.toS) (zac _) om om (by exact hs5) ?_;intro A6 c6 w6 hown6 hc6 hg6 hat6;rw[HBTR.out,HML.out]at hown6;rw[HML.out];have HX6:=qh (HX5.out.grown hg6 HX5.out.size (fun g hg=>Nat.le_trans HX4.out.size (HO5.out.lt g hg).1));have HR6:=qh (Rd.of_own hown6);clear hown6 hg6 hat6))
    have hwk:IntKind.i64.wrap ((k:Int)+1-1)=(k:Int):=by rw[IntWalk.i64_in ((k:Int)+1-1) om];omega
    have hT:=HRM.out _ HX6.out.drew;refine kgo kr 15 (fun W=>W.rangeAt b2 (off2+k*192) KM) hT (fun _ _ _ _ _ h=>h) ?_;refine kp 0 (.slice (some ⟨b2,off2,none⟩) (k+1) d) rfl kr (fun _=>kr) ?_;refine kp 1 (.int .i64 ((k:Int)+1)) rfl kr (fun _=>kr) ?_;refine kp 2 (.int .i64 (k:Int)) rfl kr (fun _=>Eq.trans (b:=.ok (.value (.int .i64 (IntKind.i64.wrap ((k:Int)+1-1)))) _) kr (by rw[hwk])) ?_;refine kp 3 (.pointer (some ⟨b2,off2+k*192,none⟩)) rfl kr (fun _=>zbn (t:=124) (e:=27) (x:=.tmp 114) (y:=.tmp 116) (n:=k+1) (c:=d) (sz:=192) rr kr kr om Tryz.underlying124 szRs) ?_;refine kp 4 (.pointer (some ⟨b2,off2+k*192,none⟩)) rfl kr (fun _=>kr) ?_;refine kp 5 (.pointer (some ⟨b2,off2+k*192,none⟩)) rfl kr (fun _=>kr) ?_;refine kl 6 (.agg KM.toArray) rfl kr (fun w' hw'=>zad (x:=.tmp 119) rr kr (run_loadAt_mid w' b2 (off2+k*192) 23 KM _ hw' Tryz.underlying23 rfl hdM)) ?_;refine kp 7 (.slice (some ⟨b2,off2,none⟩) (k+1) d) rfl kr (fun _=>kr) ?_;refine kp 8 (.int .i64 ((k:Int)+1)) rfl kr (fun _=>kr) ?_;refine kp 9 (.int .i64 (k:Int)) rfl kr (fun _=>Eq.trans (b:=.ok (.value (.int .i64 (IntKind.i64.wrap ((k:Int)+1-1)))) _) kr (by rw[hwk])) ?_;refine kp 10 (.pointer (some ⟨b2,off2+k*192,none⟩)) rfl kr (fun _=>zbn (t:=124) (e:=27) (x:=.tmp 121) (y:=.tmp 123) (n:=k+1) (c:=d) (sz:=192) rr kr kr om Tryz.underlying124 szRs) ?_;refine kp 11 (.pointer (some ⟨b2,off2+k*192+128,none⟩)) rfl kr (fun _=>kr) ?_;refine kp 12 (.slice (some ⟨b2,off2+k*192+128,none⟩) 32 32) rfl kr (fun _=>kr) ?_;refine kp 13 (.slice A6 240 c6) rfl kr (fun _=>kr) ?_;intro q8 q9;clear q8 q9;refine AnyK.enter 14 (d:=some 128) (f:=50) (args:=#[.agg KM.toArray,.slice (some ⟨b2,off2+k*192+128,none⟩) 32 32,.slice A6 240 c6]) rr kr kr ?_;refine(HTG.out _ HX6.out.drew A6 c6 HR6.out.drew).mono ?_;rintro e w7 ⟨AT,cT,rfl,hcT,hrT,hB7⟩;have HS7:Hid (Below w6.heap.size w6 w7):=qh ((Below.refl _ w6).drew.trans hB7);have HX7:=qh (HX6.out.trans (HS7.out.mono HX6.out.size));have HR7:=qh (HR6.out.below HS7.out);have HT7:=qh hrT;rw[HTGE.out]at HT7;refine⟨_,rfl,fun _=>HRM.out _ HX7.out,?_⟩;refine AnyK.val 15 (v:=.slice AT 16 cT) rr kr rfl kr (fun h=>(by cases h)) ?_;refine AnyK.done kr ?_;have HR8:=HR7;rw[HP4E.out]at HR8;clear hrT hB7 hT HS7 HR7 HX6 HR6 hwk;have h240:240≤c6:=by have:=HML.out;omega
    clear HML HZM HBTR HHH HP48 HTGE HP4E HTG HTU HCP HCE HF2 HCK;go_wp2
    go_loopg [15,16,17,18] k (fun kk v15 v16 v17 q w2=>∃m:Nat,1≤m∧m≤k+1∧kk=k+1-m∧q=.int .i64 ((k:Int)-(m:Int))∧(∃A c,v16=.slice A 240 c∧240≤c∧Hid (Rd w2 A 240 (u8s ((hst cs ss (k+1) m).drop 48))))∧(∃A c,v17=.slice A 16 c∧Hid (Rd w2 A 16 (u8s (((hst cs ss (k+1) m).drop 32).take 16))))∧Hid (Below wr.heap.size wr w2))
    case atStart=>exact⟨1,by omega,by omega,by omega,by go_num,⟨A6,c6,rfl,h240,HR8⟩,⟨AT,cT,rfl,HT7⟩,HX7⟩
    case round =>
     clear HR8 HT7 HX7;obtain⟨m,hm1,hm,hgk,rfl,⟨AB,cB,rfl,hcB,HBR⟩,⟨AG,cG,rfl,HGR⟩,HX⟩:=hrel;have HGK:=qh hgk;clear hgk
     by_cases hlt:m<k+1
     · obtain⟨i,hi⟩:=ex9 (k-m)
       rw[show(k:Int)-(m:Int)=(i:Int) by omega];have hi0:(0:Int)≤(i:Int):=om;have hik:i<k+1:=om;have HIM:Hid (i+m=k∧m<k+1):=⟨by omega,hlt⟩;have hikI:(i:Int)<(k:Int)+1:=om;obtain⟨s,hsi⟩:∃s,ss[i]? = some s:=⟨_,ge9 (by rw[HSL.out];omega)⟩;obtain⟨cm,hci⟩:∃c,cs[i]? = some c:=⟨_,ge9 (by rw[HCL.out];omega)⟩;have hok:=HSS.out s (mg9 hsi);have hcok:=HCS.out cm (mg9 hci);obtain⟨b9,o9,A1,n1,c1,l1,e9,hb9,HL1,hcl1,hnc1,hr1⟩:=(HSW.out _ HX.out).at_ (k:=i) hik
       injection e9 with e9
       injection e9 with e9 e9'
       subst e9;subst e9';obtain rfl:l1=cm.enc:=by have h5:=HL1.out;rw[List.getElem?_map,hci]at h5;simpa using h5.symm
       obtain rfl:n1=32:=by rw[←hr1.len,Cm.enc_len hcok]
       obtain⟨P0,hP0⟩:=ex9 (hst cs ss (k+1) m);obtain⟨P2,hP2⟩:=ex9 (hst cs ss (k+1) (m+1));have hl0:P0.length=288:=by rw[hP0];exact HHL.out m hm
       have hl2:P2.length=288:=by rw[hP2];exact HHL.out (m+1) om
       obtain⟨F,hF⟩:∃F,P2=headOf cm s F m P0:=⟨_,by rw[hP2,hP0];exact zge om hci hsi⟩;rw[←hP0]at HBR HGR;obtain⟨Q,hQ⟩:=ex9 (cm.enc++((P0.drop 32).take 16++(P0.drop 48).take 192));obtain⟨BT,hBT⟩:=ex9 (Ch.turn s.stream Q);have hbeta:betaOf cm s F m P0=BT:=by rw[hBT,hQ,betaOf,if_neg om]
       have hhd:P2=s.alpha++((Mc.tag s.mac (s.alpha++BT)).take 16++BT):=by rw[hF,headOf,hbeta]
       have hal:=hok.2.2.2.2.1;have htl:((Mc.tag s.mac (s.alpha++BT)).take 16).length=16:=by rw[List.length_take,Mc.tag_len];rfl
       have HD48:Hid (P2.drop 48=BT):=by show _=_;rw[hhd,←as9,List.drop_left' (by rw[la9,hal,htl])]
       have HD32:Hid ((P2.drop 32).take 16=(Mc.tag s.mac (s.alpha++BT)).take 16):=by show _=_;rw[hhd,List.drop_left' hal,List.take_left' htl]
       have HTU:Hid (∀W A3 c3,Rd W A3 240 (u8s Q)→Calls Tryz.prog 46 #[.agg (u8s s.stream).toArray,.int .i64 0,.slice A3 240 c3] W fun e w'=>∃A' c',e=.returned (.slice A' 240 c')∧240≤c'∧Rd w' A' 240 (u8s (P2.drop 48))∧Below W.heap.size W w'):=fun W A3 c3 h3=>by
        rw[HD48.out,hBT];refine(zgv s.stream hok.2.1 A3 240 c3 Q W h3 om om).mono ?_;rintro e w' ⟨A',c',rfl,hc',ho,hB'⟩;exact⟨A',c',rfl,hc',Rd.of_own ho,hB'⟩
       have HTG:Hid (∀W,Below wr.heap.size wr W→∀A3 c3,Rd W A3 240 (u8s (P2.drop 48))→Calls Tryz.prog 50 #[.agg (u8s s.mac).toArray,.slice (some ⟨b2,off2+i*192+128,none⟩) 32 32,.slice A3 240 c3] W fun e w'=>∃A' c',e=.returned (.slice A' 16 c')∧16≤c'∧Rd w' A' 16 (u8s ((P2.drop 32).take 16))∧Below W.heap.size W w'):=fun W hW A3 c3 h3=>by
        rw[HD32.out];rw[HD48.out]at h3;obtain⟨q1,q2⟩:=zdy (HST.out W (HX.out.trans (hW.mono HX.out.size))) HSS.out hsi om 128 s.alpha (Sp.at_alpha hok);refine(zid s.mac hok.1 _ 32 32 s.alpha A3 240 c3 BT W (zi7 q2 q1 32 hal) h3 om om).mono ?_;rintro e w' ⟨A',c',rfl,hc',ho,hB'⟩;exact⟨A',c',rfl,hc',Rd.of_own ho,hB'⟩
       have HRS:Hid (∀W,Below wr.heap.size wr W→W.rangeAt b2 (off2+i*192+32) (u8s s.stream)):=fun W hW=>(zdy (HST.out W (HX.out.trans (hW.mono HX.out.size))) HSS.out hsi om 32 s.stream (Sp.at_stream hok)).2
       have HRM:Hid (∀W,Below wr.heap.size wr W→W.rangeAt b2 (off2+i*192) (u8s s.mac)):=fun W hW=>(zdy (HST.out W (HX.out.trans (hW.mono HX.out.size))) HSS.out hsi om 0 s.mac (Sp.at_mac hok)).2
       have hdS:(Tryz.prog.info? 23).map (·.size)=some (u8s s.stream).length:=by rw[zaa,hok.2.1];exact hd32
       have hdM:(Tryz.prog.info? 23).map (·.size)=some (u8s s.mac).length:=by rw[zaa,hok.1];exact hd32
       have HCP:Hid (∀W,Rd W A1 32 (u8s cm.enc)→Calls Tryz.prog 12 #[.slice A1 32 c1] W fun e w'=>∃A' c',e=.returned (.slice A' 32 c')∧32≤c'∧w'.ownsRow W.heap.size 5 1 (.slice A' 32 c') 32 (u8s cm.enc)∧Below W.heap.size W w'):=fun W hW=>zbs _ 32 c1 _ W hW om
       have HQ:Hid (u8s cm.enc++u8s ((P0.drop 32).take 16)++u8s ((P0.drop 48).take 192)=u8s Q):=by show _=_;rw[hQ,←zae,←zae,as9]
       obtain⟨bB,oB,rfl,_,_⟩:=HBR.out.2 om
       have HBR2:Hid (Rd wr (some ⟨bB,oB,none⟩) 192 (u8s ((P0.drop 48).take 192))):=by
        have h5:=zg1 HBR.out 0 192 om
        rwa [Nat.add_zero,List.drop_zero]at h5
       have HGR2:=HGR;have HR1:=qh hr1;have HPX:Hid (hst cs ss (k+1) (m+1)=P2):=hP2.symm;generalize u8s s.stream=KS at *;generalize u8s s.mac=KM at *;generalize u8s cm.enc=CE at *;have hT:wr.drew.cell? ⟨b7,o7+i,none⟩=some (.slice A1 32 c1):=hcl1;clear hsi hci hok hcok hb9 HL1 hcl1 hnc1 hr1 hP0 hP2 hl0 hl2 hF hQ hBT hbeta hhd hal htl HBR HGR HD48 HD32 hi;go_wp2;refine kgo kr 10 (fun W=>W.cell? ⟨b7,o7+i,none⟩=some (.slice A1 32 c1)) hT (fun _ _ _ _ _ h=>h) ?_;refine kp 0 (.slice (some ⟨b7,o7,none⟩) (k+1) c7) rfl kr (fun _=>kr) ?_;refine kp 1 (.int .i64 (i:Int)) rfl kr (fun _=>kr) ?_;refine kp 2 (.pointer (some ⟨b7,o7+i,none⟩)) rfl kr (fun _=>zei (t:=87) (e:=22) (x:=.tmp 135) (y:=.tmp 136) (n:=k+1) (c:=c7) rr kr kr hik Tryz.underlying87 szSl) ?_;refine kl 3 (.slice A1 32 c1) rfl kr (fun w' hw'=>za5 (t:=22) (x:=.tmp 137) rr kr agSl hw') ?_;refine kp 5 (.slice AG 16 cG) rfl kr (fun _=>kr) ?_;refine kp 7 (.slice (some ⟨bB,oB,none⟩) 240 cB) rfl kr (fun _=>kr) ?_;refine kp 8 (.slice (some ⟨bB,oB,none⟩) 192 cB) rfl kr (fun _=>zup (x:=.tmp 142) (n:=240) 192 rr kr om) ?_;intro q8 q9;clear q8 q9;refine AnyK.enter 4 (d:=some 139) (f:=12) (args:=#[.slice A1 32 c1]) rr kr kr ?_;refine(HCP.out _ HR1.out.drew).mono ?_;rintro e w3 ⟨A3,c3,rfl,hc3,hown3,hB3⟩;have HS3:Hid (Below wr.heap.size wr w3):=qh ((Below.refl _ wr).drew.trans hB3);have HO3:Hid (w3.ownsRow wr.heap.size 5 1 (.slice A3 32 c3) 32 CE):=hown3;have hT3:w3.cell? ⟨b7,o7+i,none⟩=some (.slice A1 32 c1):=(HS3.out.cell (HSB7.out _ HX.out)).trans hT;refine⟨_,rfl,fun _=>hT3,?_⟩;refine AnyK.one 6 rfl kr rfl ?_;refine zgj (.tmp 139) (.tmp 140) 22 rr wr.heap.size 5 1 1 Tryz.underlying22 eU8 (.slice A3 32 c3) 32 CE kr HO3.out AG 16 cG (u8s ((P0.drop 32).take 16)) kr (HGR2.out.below HS3.out).toS (zac _) om om HS3.out.size ?_;intro A4 c4 w4 hown4 hc4 hg4 hat4;have HO4:=qh hown4;have HS4:=qh (HS3.out.grown hg4 HS3.out.size (fun g hg=>(HO3.out.lt g hg).1));have hT4:w4.cell? ⟨b7,o7+i,none⟩=some (.slice A1 32 c1):=(HS4.out.cell (HSB7.out _ HX.out)).trans hT;refine⟨fun _=>hT4,?_⟩;refine AnyK.one 9 rfl kr rfl ?_;refine zgj (.tmp 141) (.tmp 143) 22 rr wr.heap.size 5 1 1 Tryz.underlying22 eU8 (.slice A4 48 c4) 48 _ kr HO4.out (some ⟨bB,oB,none⟩) 192 cB (u8s ((P0.drop 48).take 192)) kr (HBR2.out.below HS4.out).toS (zac _) om om HS4.out.size ?_;intro A5 c5 w5 hown5 hc5 hg5 hat5;rw[HQ.out]at hown5;have HS5:=qh (HS4.out.grown hg5 HS4.out.size (fun g hg=>(HO4.out.lt g hg).1));have hT5:w5.cell? ⟨b7,o7+i,none⟩=some (.slice A1 32 c1):=(HS5.out.cell (HSB7.out _ HX.out)).trans hT;refine⟨fun _=>hT5,?_⟩;refine AnyK.val 10 (v:=.slice A5 240 c5) rr kr rfl kr (fun h=>(by cases h)) ?_;refine AnyK.done kr ?_;have HR5:=qh (Rd.of_own hown5);have hr5:=HRS.out _ HS5.out;clear hT hT3 hT4 hT5 hown3 hB3 hown4 hg4 hat4 hown5 hg5 hat5
       go_wp2_with (first
        | (refine wpList_load_mid rfl 23 (.tmp 149) rfl b2 (off2+i*192+32) rr KS _ hr5 Tryz.underlying23 rfl hdS ?_)
        | (go_at_call 46;(refine(HTU.out _ _ _ (by exact HR5.out)).mono ?_);rintro e w6 ⟨A6,c6,rfl,hc6,hr6,hB6⟩;have HS6:=qtr HS5 hB6;have HR6:=qh hr6;clear hr6 hB6))
       have hT:=HRM.out _ HS6.out.drew;refine kgo kr 13 (fun W=>W.rangeAt b2 (off2+i*192) KM) hT (fun _ _ _ _ _ h=>h) ?_;refine kp 0 (.slice (some ⟨b2,off2,none⟩) (k+1) d) rfl kr (fun _=>kr) ?_;refine kp 1 (.int .i64 (i:Int)) rfl kr (fun _=>kr) ?_;refine kp 2 (.pointer (some ⟨b2,off2+i*192,none⟩)) rfl kr (fun _=>zbn (t:=124) (e:=27) (x:=.tmp 153) (y:=.tmp 154) (n:=k+1) (c:=d) (sz:=192) rr kr kr hik Tryz.underlying124 szRs) ?_;refine kp 3 (.pointer (some ⟨b2,off2+i*192,none⟩)) rfl kr (fun _=>kr) ?_;refine kp 4 (.pointer (some ⟨b2,off2+i*192,none⟩)) rfl kr (fun _=>kr) ?_;refine kl 5 (.agg KM.toArray) rfl kr (fun w' hw'=>zad (x:=.tmp 157) rr kr (run_loadAt_mid w' b2 (off2+i*192) 23 KM _ hw' Tryz.underlying23 rfl hdM)) ?_;refine kp 6 (.slice (some ⟨b2,off2,none⟩) (k+1) d) rfl kr (fun _=>kr) ?_;refine kp 7 (.int .i64 (i:Int)) rfl kr (fun _=>kr) ?_;refine kp 8 (.pointer (some ⟨b2,off2+i*192,none⟩)) rfl kr (fun _=>zbn (t:=124) (e:=27) (x:=.tmp 159) (y:=.tmp 160) (n:=k+1) (c:=d) (sz:=192) rr kr kr hik Tryz.underlying124 szRs) ?_;refine kp 9 (.pointer (some ⟨b2,off2+i*192+128,none⟩)) rfl kr (fun _=>kr) ?_;refine kp 10 (.slice (some ⟨b2,off2+i*192+128,none⟩) 32 32) rfl kr (fun _=>kr) ?_;refine kp 11 (.slice A6 240 c6) rfl kr (fun _=>kr) ?_;intro q8 q9;clear q8 q9;refine AnyK.enter 12 (d:=some 165) (f:=50) (args:=#[.agg KM.toArray,.slice (some ⟨b2,off2+i*192+128,none⟩) 32 32,.slice A6 240 c6]) rr kr kr ?_;refine(HTG.out _ HS6.out.drew A6 c6 HR6.out.drew).mono ?_;rintro e w7 ⟨AT,cT,rfl,hcT,hrT,hB7⟩;have HD7:Hid (Below w6.heap.size w6 w7):=qh ((Below.refl _ w6).drew.trans hB7);have HS7:=qh (HS6.out.trans (HD7.out.mono HS6.out.size));have HR7:=qh (HR6.out.below HD7.out);have HT7:=qh hrT;refine⟨_,rfl,fun _=>HRM.out _ HS7.out,?_⟩;refine AnyK.val 13 (v:=.slice AT 16 cT) rr kr rfl kr (fun h=>(by cases h)) ?_;refine AnyK.done kr ?_;have HX8:=qh (HX.out.trans (HS7.out.mono HX.out.size));clear hrT hB7 hT HR6 HS6;go_wp2;go_roundg (k+1-(m+1))
       case measure=>have:=HGK.out;have:=HIM.out;omega
       case rel=>exact⟨m+1,by omega,by have:=HIM.out;omega,rfl,by have:=HIM.out;go_num,⟨A6,c6,rfl,hc6,by rw[HPX.out];exact HR7⟩,⟨AT,cT,rfl,by rw[HPX.out];exact HT7⟩,HX8⟩
     · obtain rfl:m=k+1:=om
       rw[show(k:Int)-((k+1:Nat):Int)=-1 by omega];obtain⟨s,hsi⟩:∃s,ss[0]? = some s:=⟨_,ge9 (by rw[HSL.out];omega)⟩;obtain⟨cm,hci⟩:∃c,cs[0]? = some c:=⟨_,ge9 (by rw[HCL.out];omega)⟩;have hok:=HSS.out s (mg9 hsi);obtain⟨P0,hP0⟩:=ex9 (hst cs ss (k+1) (k+1));have hl0:P0.length=288:=by rw[hP0];exact HHL.out (k+1) om
       obtain⟨F,Z9,hF⟩:∃F Z,P0=headOf cm s F k Z:=⟨_,_,by rw[hP0];exact zge (m:=k) (i:=0) om hci hsi⟩;have hal:=hok.2.2.2.2.1;have HT0:Hid (P0.take 32=s.alpha):=by show _=_;rw[hF,headOf,List.take_left' hal]
       have HCT:Hid (u8s s.alpha++u8s ((P0.drop 32).take 16)++u8s (P0.drop 48)=u8s P0):=by
        show _=_
        have e:(P0.drop 32).take 16++P0.drop 48=P0.drop 32:=by rw[show P0.drop 48=(P0.drop 32).drop 16 by rw[List.drop_drop],List.take_append_drop]
        rw[←zae,←zae,←HT0.out,as9,e,List.take_append_drop]
       have HCP:Hid (∀W,Below wr.heap.size wr W→Calls Tryz.prog 12 #[.slice (some ⟨b2,off2+128,none⟩) 32 32] W fun e w'=>∃A' c',e=.returned (.slice A' 32 c')∧32≤c'∧w'.ownsRow W.heap.size 5 1 (.slice A' 32 c') 32 (u8s s.alpha)∧Below W.heap.size W w'):=fun W hW=>by
        obtain⟨q1,q2⟩:=zdy (HST.out W (HX.out.trans (hW.mono HX.out.size))) HSS.out hsi om 128 s.alpha (Sp.at_alpha hok);rw[Nat.zero_mul,Nat.add_zero]at q2;exact zbs _ 32 32 _ W (zi7 q2 q1 32 hal) om
       rw[←hP0]at HBR HGR;have HP9:=qh hP0;generalize u8s s.alpha=AL at *;clear hsi hci hok hP0 hl0 hF hal HT0
       go_wp2_with (first
        | (go_at_call 12;(refine(HCP.out _ (by exact Below.refl _ _)).mono ?_);rintro e w3 ⟨A3,c3,rfl,hc3,hown3,hB3⟩;have HO3:=qh hown3;have HS3:=qh hB3;clear hown3 hB3)
        | (at_builtin;refine zah rfl (.tmp 170) (.tmp 171) 22 rfl wr.heap.size 5 1 1 Tryz.underlying22 eU8 (.slice A3 32 c3) 32 _ rr (by exact HO3.out) AG 16 cG _ rr (by exact(HGR.out.below HS3.out).toS) (zac _) om om (by exact HS3.out.size) ?_;intro A4 c4 w4 hown4 hc4 hg4 hat4;have HO4:=qh hown4;have HS4:=qh (HS3.out.grown hg4 HS3.out.size (fun g hg=>(HO3.out.lt g hg).1));clear hown4 hg4 hat4)
        | (at_builtin;refine zah rfl (.tmp 173) (.tmp 174) 22 rfl wr.heap.size 5 1 1 Tryz.underlying22 eU8 (.slice A4 48 c4) 48 _ rr (by exact HO4.out) AB 240 cB _ rr (by exact(HBR.out.below HS4.out).toS) (zac _) om om (by exact HS4.out.size) ?_;intro A5 c5 w5 hown5 hc5 hg5 hat5;rw[HCT.out]at hown5;have HO5:=qh (zbj hown5 (Nat.le_trans HE.out.size HX.out.size));have HE5:=qh (HBL.out _ (HX.out.trans ((HS4.out.grown hg5 HS4.out.size (fun g hg=>(HO4.out.lt g hg).1)).mono HX.out.size)));clear hown5 hg5 hat5))
       rw[HP9.out]at HO5;go_ret2;exact⟨A5,c5,rfl,hc5,HO5.out,HE5.out⟩
end
section
theorem zr0(v:Value):Instr.loadAt 121 v=ldAt 121 v:=rfl
theorem zvg(v:Value):Instr.loadAt 81 v=ldAt 81 v:=rfl
attribute [local go_sem ↓] zr0 zvg
def zHo:Ho:=⟨ByteArray.empty,0,List.replicate 32 0,List.replicate 32 0,0,0⟩
theorem zj8:zHo.ok:=⟨by decide,rfl,rfl,by decide,by decide⟩
theorem zc83:Tryz.zeroCells83 = zHo.node.toArray:=by kernel_rfl
theorem zc85:Tryz.zeroCells85 = zHo.cells.toArray:=by kernel_rfl
theorem zc121:Tryz.zeroCells121 = zHo.cells.toArray:=by kernel_rfl
theorem hd121:(Tryz.prog.info? 121).map (·.size)=some 68:=by kernel_rfl
theorem hd81:(Tryz.prog.info? 81).map (·.size)=some 66:=by kernel_rfl
theorem z1ho:(Tryz.prog.info? 85).map (fun i=>((i.zero.map (fun z=>z.cells.size)),i.size))=some (some 68,68):=by kernel_rfl
theorem eHop:ElemIs Tryz.prog 85 68 104:=ElemIs.of (z:=.agg zHo.cells.toArray) kr (by show zHo.cells.toArray.size=68;rw[List.size_toArray,Ho.cells_len zj8]) om
theorem pl83(fields:Array Field)(h:Tryz.prog.underlying 83 = some (.struct fields))(w:World):(fields.mapM (fun f=>do pure (f.offset,←sizeOf f.type)):Sem (Array (Nat × Nat))).run Tryz.prog w=.ok #[(0,66)] w:=by
 rw[Tryz.underlying83]at h
 injection h with h
 injection h with h
 subst h
 kernel_rfl
theorem pl85(fields:Array Field)(h:Tryz.prog.underlying 85 = some (.struct fields))(w:World):(fields.mapM (fun f=>do pure (f.offset,←sizeOf f.type)):Sem (Array (Nat × Nat))).run Tryz.prog w=.ok #[(0,66),(66,1),(67,1)] w:=by
 rw[Tryz.underlying85]at h
 injection h with h
 injection h with h
 subst h
 kernel_rfl
theorem bld_dn(N:List Value)(hN:N.length=66)(w:World):(Instr.build 83 [(0,(.agg N.toArray:Value))].toArray).run Tryz.prog w=.ok (.agg N.toArray) w:=by
 refine zb2 Tryz.zeroValue83 Tryz.underlying83 (pl83 _ Tryz.underlying83) ?_ w;rw[zc83]
 show Instr.fill _ _ [(0,_)]=_
 rw[zas (cs:=N) rfl (by rw[hN];rfl) (by rw[hN,Ho.node_len zj8];omega),zap _ _ (by rw[hN,Ho.node_len zj8])]
 rfl
theorem bld_dh(N:List Value)(D F:Int)(hN:N.length=66)(w:World):(Instr.build 85 [(0,(.agg N.toArray:Value)),(1,.int .i64 D),(2,.int .i64 F)].toArray).run Tryz.prog w=.ok (.agg (N++[Value.int .i64 D,Value.int .i64 F]).toArray) w:=by
 refine zb2 Tryz.zeroValue85 Tryz.underlying85 (pl85 _ Tryz.underlying85) ?_ w;rw[zc85];have z0:=Ho.cells_len zj8;have l1:(splice zHo.cells 0 N).length=68:=by rw[length_splice _ _ _ (by rw[hN,z0];omega),z0]
 have l2:(splice (splice zHo.cells 0 N) 66 [Value.int .i64 D]).length=68:=by rw[length_splice _ _ _ (by rw[l1];simp),l1]
 show Instr.fill _ _ [(0,_),(1,_),(2,_)]=_
 rw[zas (cs:=N) rfl (by rw[hN];rfl) (by rw[hN,z0];omega),zas (cs:=[Value.int .i64 D]) rfl rfl (by rw[l1];simp),zas (cs:=[Value.int .i64 F]) rfl rfl (by rw[l2];simp)];rw[splice_splice_splice _ _ _ _ 66 1 hN rfl (by rw[z0];rfl)]
 rfl
end
end Go.Proofs.YtpgpaenloaphaaaGreat
