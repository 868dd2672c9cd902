/- Part of the proof. -/
import Derived.Test.YtpgpaenloaphaaaGreatSmx22
set_option maxRecDepth 100000
set_option maxHeartbeats 0
namespace Go.Proofs.YtpgpaenloaphaaaGreat
open Go.RowKit
structure Ho where
 nm:ByteArray
 id:Nat
 priv:List UInt8
 pub:List UInt8
 dl:Int
 fl:Int
namespace Ho
def node(h:Ho):List Value:=.string h.nm :: .int .u64 (h.id:Int) :: (u8s h.priv++u8s h.pub)
def cells(h:Ho):List Value:=h.node++[.int .i64 h.dl,.int .i64 h.fl]
def ok(h:Ho):Prop:=h.id<18446744073709551616∧h.priv.length=32∧h.pub.length=32∧(Lit.int .i64 h.dl).wf=true∧(Lit.int .i64 h.fl).wf=true
theorem node_len{h:Ho}(hk:h.ok):h.node.length=66:=by simp[node,zaa,hk.2.1,hk.2.2.1]
theorem cells_len{h:Ho}(hk:h.ok):h.cells.length=68:=by simp[cells,node_len hk]
theorem ztx(h:Ho):∀v∈h.node,v.oneCell'=true:=by
 intro v hv;simp only[node,List.mem_cons,List.mem_append]at hv
 rcases hv with rfl|rfl|hv|hv
 · rfl
 · rfl
 · exact zac _ _ hv
 · exact zac _ _ hv
theorem cells_one(h:Ho):∀v∈h.cells,v.oneCell'=true:=by
 intro v hv;simp only[cells,List.mem_append,List.mem_cons,List.not_mem_nil,or_false]at hv
 rcases hv with hv|rfl|rfl
 · exact ztx h v hv
 · rfl
 · rfl
theorem at_id(h:Ho):h.cells[1]? = some (.int .u64 (h.id:Int)):=rfl
theorem at_dl{h:Ho}(hk:h.ok):h.cells[66]? = some (.int .i64 h.dl):=by
 rw[cells,ar9 (by rw[node_len hk];exact lr),node_len hk];rfl
theorem at_fl{h:Ho}(hk:h.ok):h.cells[67]? = some (.int .i64 h.fl):=by
 rw[cells,ar9 (by rw[node_len hk];omega),node_len hk];rfl
theorem at_node{h:Ho}(hk:h.ok):(h.cells.drop 0).take 66=h.node:=by rw[List.drop_zero,cells,List.take_left' (node_len hk)]
theorem at_pub{h:Ho}(hk:h.ok):(h.cells.drop 34).take 32=u8s h.pub:=by
 have e:h.cells=(.string h.nm :: .int .u64 (h.id:Int) :: u8s h.priv)++(u8s h.pub++[.int .i64 h.dl,.int .i64 h.fl]):=by simp[cells,node]
 rw[e,List.drop_left' (by simp[zaa,hk.2.1]),List.take_left' (by rw[zaa,hk.2.2.1])]
def bad(h:Ho):Bool:=decide (h.dl<0)|| decide (1000000<h.dl)|| decide (h.fl<0)|| decide (255<h.fl)
end Ho
theorem zbk{w:World}{A:Option Addr}{n:Nat}{l:List Ho}(h:RdS 68 w A n (l.flatMap Ho.cells))(hs:∀s∈l,s.ok){i:Nat}{s:Ho}(hi:l[i]? = some s)(hn:0<n):
 ∃b off,A=some ⟨b,off,none⟩∧b<w.heap.size∧w.rangeAt b (off+i*68) s.cells:=by
 obtain⟨b,off,e,hb,hc⟩:=h.2 hn;refine⟨b,off,e,hb,fun j v hv=>?_⟩;have h1:=zdv (f:=Ho.cells) (sz:=68) (fun a ha=>Ho.cells_len (hs a ha)) hi hv;rw[Nat.add_assoc];exact hc _ _ h1
def pathE(last:Cm)(hs:List Ho):Nat :=
 if last.k.toNat<2∨4<last.k.toNat then 1 else if hs.any Ho.bad then 1 else if hs.length<1∨5<hs.length then 2 else if last.shaped=false then 3 else if (hs.drop 1).any (fun h=>h.id == 0) then 3 else 0
def pathC(last:Cm)(hs:List Ho)(i:Nat):Cm:=match hs[i]? with
 | some h=>if i+1<hs.length then ⟨1,UInt8.ofNat h.fl.toNat,h.dl.toNat,((hs[i+1]?.map Ho.id).getD 0),List.replicate 16 0⟩ else ⟨last.k,UInt8.ofNat h.fl.toNat,h.dl.toNat,0,last.m⟩
 | none=>Cm.zero
def pathL(last:Cm)(hs:List Ho):List Cm:=(List.range hs.length).map (pathC last hs)
section
attribute [local go_sem ↓] zcg
theorem Ho.bad_ways{h:Ho}(hb:h.bad=true):h.dl<0∨(¬h.dl<0∧h.dl>1000000)∨(¬h.dl<0∧¬h.dl>1000000∧h.fl<0)∨(¬h.dl<0∧¬h.dl>1000000∧¬h.fl<0∧h.fl>255):=by
 simp only[Ho.bad,Bool.or_eq_true,decide_eq_true_eq]at hb;omega
theorem Ho.bad_no{h:Ho}(hb:h.bad=false):0≤h.dl∧h.dl≤1000000∧0≤h.fl∧h.fl≤255:=by
 simp only[Ho.bad,Bool.or_eq_false_iff,decide_eq_false_iff_not]at hb;omega
theorem zq6{last:Cm}{hs:List Ho}(h:last.k.toNat<2∨4<last.k.toNat):pathE last hs=1:=by unfold pathE;rw[if_pos h]
theorem zq5{last:Cm}{hs:List Ho}(h:¬(last.k.toNat<2∨4<last.k.toNat)){i:Nat}{o:Ho}(hi:hs[i]? = some o)(hb:o.bad=true):pathE last hs=1:=by
 unfold pathE
 rw[if_neg h,if_pos (List.any_eq_true.2 ⟨o,mg9 hi,hb⟩)]
theorem zj7{hs:List Ho}(h2:∀(i:Nat) (o:Ho),hs[i]? = some o→o.bad=false):¬hs.any Ho.bad=true:=by
 intro h;obtain⟨o,ho,hb⟩:=List.any_eq_true.1 h;obtain⟨i,hi,rfl⟩:=List.getElem_of_mem ho;rw[h2 i _ (ge9 hi)]at hb
 cases hb
theorem zq4{last:Cm}{hs:List Ho}(h:¬(last.k.toNat<2∨4<last.k.toNat))(h2:∀(i:Nat) (o:Ho),hs[i]? = some o→o.bad=false)(h3:hs.length<1∨5<hs.length):pathE last hs=2:=by
 unfold pathE
 rw[if_neg h,if_neg (zj7 h2),if_pos h3]
theorem zq3{last:Cm}{hs:List Ho}(h:¬(last.k.toNat<2∨4<last.k.toNat))(h2:∀(i:Nat) (o:Ho),hs[i]? = some o→o.bad=false)(h3:¬(hs.length<1∨5<hs.length))(h4:last.shaped=false):pathE last hs=3:=by
 unfold pathE
 rw[if_neg h,if_neg (zj7 h2),if_neg h3,if_pos h4]
theorem zlu{last:Cm}{hs:List Ho}(h:¬(last.k.toNat<2∨4<last.k.toNat))(h2:∀(i:Nat) (o:Ho),hs[i]? = some o→o.bad=false)(h3:¬(hs.length<1∨5<hs.length))(h4:last.shaped=true){i:Nat}{o:Ho}(hi0:0<i)(hi:hs[i]? = some o)(ho:o.id=0):pathE last hs=3:=by
 unfold pathE
 rw[if_neg h,if_neg (zj7 h2),if_neg h3,if_neg (by rw[h4];decide),if_pos];refine List.any_eq_true.2 ⟨o,?_,by rw[ho];rfl⟩;have:(hs.drop 1)[i-1]? = some o:=by rw[List.getElem?_drop,show 1+(i-1)=i by omega];exact hi
 exact mg9 this
theorem zlt{last:Cm}{hs:List Ho}(h:¬(last.k.toNat<2∨4<last.k.toNat))(h2:∀(i:Nat) (o:Ho),hs[i]? = some o→o.bad=false)(h3:¬(hs.length<1∨5<hs.length))(h4:last.shaped=true)(h5:∀(i:Nat) (o:Ho),0<i→hs[i]? = some o→o.id≠0):pathE last hs=0:=by
 unfold pathE
 rw[if_neg h,if_neg (zj7 h2),if_neg h3,if_neg (by rw[h4];decide),if_neg];intro h6;obtain⟨o,ho,hb⟩:=List.any_eq_true.1 h6;obtain⟨i,hi,rfl⟩:=List.getElem_of_mem ho;rw[List.getElem_drop]at hb;rw[List.length_drop]at hi;have:=h5 (1+i) _ om (ge9 om);simp only[beq_iff_eq]at hb;exact this hb
theorem zg6(last:Cm)(hc:last.ok)(A:Option Addr)(n c:Nat)(hs:List Ho)(w:World)(h:RdS 68 w A n (hs.flatMap Ho.cells))(hok:∀s∈hs,s.ok)(hl:hs.length=n)(hn:n≤140737488355328):
 Calls Tryz.prog 86 #[.agg last.cells.toArray,.slice A n c] w fun e w'=>e=.returned (.int .i64 (pathE last hs:Int))∧Below w.heap.size w w':=by
 by_cases hk:last.k.toNat<2∨4<last.k.toNat
 · rw[zq6 hk]
   obtain⟨C,hC⟩:=ex9 (last.cells);have c0:(w.alloc (.cells C.toArray 47)).cell? ⟨w.heap.size,0,none⟩=some (.int .u8 last.k.toNat):=by rw[(Blk.new w _ _).cell,hC];rfl
   rw[←hC];clear hC;generalize last.k.toNat=K at *;have HE:Hid (Below w.heap.size w (w.alloc (.cells C.toArray 47))):=(Below.refl _ w).alloc lr _
   by_cases h2:K<2
   · have h2':(K:Int)<2:=om
     clear hk
     go_enter Tryz.func86, Tryz.ntmps86
     go_wp2;go_ret;exact⟨rfl,HE.out⟩
   · have h2':¬(K:Int)<2:=om
     have h4':(K:Int)>4:=om;clear hk
     go_enter Tryz.func86, Tryz.ntmps86
     go_wp2;go_ret;exact⟨rfl,HE.out⟩
 have HP2:=qh (fun(i:Nat) (o:Ho) (hi:hs[i]? = some o) (hb:o.bad=true)=>zq5 hk hi hb);have HP3:=qh (fun h2 h3=>zq4 (hs:=hs) hk h2 h3);have HP4:=qh (fun h2 h3 h4=>zq3 (hs:=hs) hk h2 h3 h4);have HP5:=qh (fun h2 h3 h4 (i:Nat) (o:Ho) h5 (hi:hs[i]? = some o) ho=>zlu hk h2 h3 h4 h5 hi ho);have HP6:=qh (fun h2 h3 h4 h5=>zlt (hs:=hs) hk h2 h3 h4 h5);have HSH:=qh (fun W=>zia last hc W);have HCL:=qh (Cm.cells_len hc);obtain⟨C,hC⟩:=ex9 (last.cells);have HB0:Hid (Blk (w.alloc (.cells C.toArray 47)) w.heap.size 47 C):=Blk.new w _ _;have c0:(w.alloc (.cells C.toArray 47)).cell? ⟨w.heap.size,0,none⟩=some (.int .u8 last.k.toNat):=by rw[HB0.out.cell,hC];rfl
 rw[←hC]at HSH HCL ⊢;clear hC;have k2:¬(last.k.toNat:Int)<2:=om;have k4:¬(last.k.toNat:Int)>4:=om;generalize last.k.toNat=K at *;generalize pathE last hs=E at *;generalize last.shaped=SH at *;have HE:Hid (Below w.heap.size w (w.alloc (.cells C.toArray 47))):=(Below.refl _ w).alloc lr _;have HR:=qh (h.bel HE.out lr);have HK:=qh hok;have HL:=qh hl;clear h hok hl hk hc
 go_enter Tryz.func86, Tryz.ntmps86
 go_wp2
 go_loop [18] (fun q=>∃k:Nat,k≤n∧q=.int .i64 k∧Hid (∀(i:Nat) (o:Ho),i<k→hs[i]? = some o→o.bad=false)) (fun q=>n-(intOf q).toNat)
 case atStart=>exact⟨0,Nat.zero_le _,rfl,fun i o hi=>absurd hi om⟩
 case round =>
  obtain⟨k,hkn,rfl,HI⟩:=hrel
  by_cases hlt:k<n
  · have hlt2:(k:Int)<(n:Int):=om
    obtain⟨o,ho⟩:∃o,hs[k]? = some o:=⟨_,ge9 (by rw[HL.out];omega)⟩;have hoo:=HK.out o (mg9 ho);obtain⟨b,off,rfl,hb2,hrg⟩:=zbk HR.out HK.out ho om;have d66:=hrg 66 _ (Ho.at_dl hoo);have d67:=hrg 67 _ (Ho.at_fl hoo)
    by_cases hbad:o.bad=true
    · have he:=HP2.out k o ho hbad
      have hw:=Ho.bad_ways hbad;subst he;generalize o.dl=D at *;generalize o.fl=F at *;have HRR:Hid (hs[k]? = some o):=ho;clear ho hoo hrg hbad HP2 HP3 HP4 HP5 HP6
      rcases hw with g1|⟨g1,g2⟩|⟨g1,g2,g3⟩|⟨g1,g2,g3,g4⟩ <;>
        (go_wp2;go_ret;exact⟨rfl,HE.out⟩)
    · have hbad':o.bad=false:=by simpa using hbad
      obtain⟨g1,g2,g3,g4⟩:=Ho.bad_no hbad'
      have HI2:Hid (∀(i:Nat) (o:Ho),i<k+1→hs[i]? = some o→o.bad=false):=fun i o' hi hio=>by
       rcases Nat.lt_or_ge i k with h|h
       · exact HI.out i o' h hio
       · obtain rfl:i=k:=om
         rw[ho]at hio
         injection hio with hio
         subst hio;exact hbad'
      generalize o.dl=D at *;generalize o.fl=F at *;have i1:¬D<0:=om;have i2:¬D>1000000:=om;have i3:¬F<0:=om;have i4:¬F>255:=om;clear ho hoo hrg hbad hbad' g1 g2 g3 g4;go_wp2
      go_round
      case rel=>exact⟨k+1,by omega,by go_num,HI2⟩
      case measure=>simp[intOf];omega
  · have:k=n:=om
    subst this;have hlt2:¬(k:Int)<(k:Int):=om;have HI2:Hid (∀(i:Nat) (o:Ho),hs[i]? = some o→o.bad=false):=fun i o hi=>HI.out i o (by have:=(gi9.1 hi).1;rw[HL.out]at this;exact this) hi
    clear HI
    by_cases h5:k<1∨5<k
    · have he:=HP3.out HI2.out (by rw[HL.out];exact h5)
      subst he;clear HP2 HP3 HP4 HP5 HP6
      rcases Nat.lt_or_ge k 1 with h6|h6
      · have h7:(k:Int)<1:=om
        go_wp2;go_ret;exact⟨rfl,HE.out⟩
      · have h7:¬(k:Int)<1:=om
        have h8:(k:Int)>5:=om;go_wp2;go_ret;exact⟨rfl,HE.out⟩
    · have h7:¬(k:Int)<1:=om
      have h8:¬(k:Int)>5:=om;have HN5:Hid (¬(hs.length<1∨5<hs.length)):=by show ¬_;rw[HL.out];exact h5
      have hld:(ldAt 47 (.pointer (some ⟨w.heap.size,0,none⟩))).run Tryz.prog (w.alloc (.cells C.toArray 47))=.ok (.agg C.toArray) (w.alloc (.cells C.toArray 47)):=cm_ld HB0.out HCL.out;clear h5
      rcases SH with _|_
      · have he:=HP4.out HI2.out HN5.out rfl
        subst he;clear HP2 HP3 HP4 HP5 HP6
        go_wp2_with (go_at_call 109;(refine(HSH.out _).mono ?_);rintro e w2 ⟨rfl,hB2⟩;have HE2:=qtr HE hB2;clear hB2)
        go_ret;exact⟨rfl,HE2.out⟩
      · have HQ5:=qh (HP5.out HI2.out HN5.out rfl)
        have HQ6:=qh (HP6.out HI2.out HN5.out rfl);clear HP2 HP3 HP4 HP5 HP6
        go_wp2_with (go_at_call 109;(refine(HSH.out _).mono ?_);rintro e w2 ⟨rfl,hB2⟩;have HE2:=qtr HE hB2;have HR2:=qh (HR.out.bel hB2 lr);clear hB2)
        clear HR HB0 hld
        go_loop [64] (fun q=>∃j:Nat,j≤k∧q=.int .i64 j∧Hid (∀(i:Nat) (o:Ho),i<j→0<i→hs[i]? = some o→o.id≠0)) (fun q=>k-(intOf q).toNat)
        case atStart=>exact⟨0,Nat.zero_le _,rfl,fun i o hi=>absurd hi om⟩
        case round =>
         obtain⟨j,hjn,rfl,HJ⟩:=hrel
         by_cases hlt:j<k
         · have hlt3:(j:Int)<(k:Int):=om
           obtain⟨o,ho⟩:∃o,hs[j]? = some o:=⟨_,ge9 (by rw[HL.out];omega)⟩;have hoo:=HK.out o (mg9 ho);obtain⟨b,off,rfl,hb2,hrg⟩:=zbk HR2.out HK.out ho om;have d1:=hrg 1 _ (Ho.at_id o)
           rcases Nat.eq_zero_or_pos j with hj0|hj0
           · subst hj0
             have HJ2:Hid (∀(i:Nat) (o:Ho),i<0+1→0<i→hs[i]? = some o→o.id≠0):=fun i o h1 h2=>absurd h1 om
             clear ho hoo hrg d1;go_wp2
             go_round
             case rel=>exact⟨0+1,by omega,by go_num,HJ2⟩
             case measure=>simp[intOf];omega
           · have hj1:(j:Int)>0:=om
             by_cases hid:o.id=0
             · have he:=HQ5.out j o hj0 ho hid
               subst he;rw[hid]at d1;clear ho hoo hrg HQ5 HQ6;go_wp2;go_ret;exact⟨rfl,HE2.out⟩
             · have hid2:¬(o.id:Int)=0:=om
               have HJ2:Hid (∀(i:Nat) (o:Ho),i<j+1→0<i→hs[i]? = some o→o.id≠0):=fun i o' hi h0 hio=>by
                rcases Nat.lt_or_ge i j with h|h
                · exact HJ.out i o' h h0 hio
                · obtain rfl:i=j:=om
                  rw[ho]at hio
                  injection hio with hio
                  subst hio;exact hid
               generalize o.id=I at *;clear ho hoo hrg hid;go_wp2
               go_round
               case rel=>exact⟨j+1,by omega,by go_num,HJ2⟩
               case measure=>simp[intOf];omega
         · have:j=k:=om
           subst this;have he:=HQ6.out (fun i o h0 hi=>HJ.out i o (by have:=(gi9.1 hi).1;rw[HL.out]at this;exact this) h0 hi);subst he;have hlt3:¬(j:Int)<(j:Int):=om;clear HQ5 HQ6;go_wp2;go_ret;exact⟨rfl,HE2.out⟩
end
theorem zxh(l:List UInt8):(l.flatMap fun x=>[u8 x])=u8s l:=by
 induction l with
 | nil=>rfl
 | cons a l ih=>rw[List.flatMap_cons,ih];rfl
theorem zln(B:Option Nat)(N:Nat):Reads Tryz.prog B N 22 (fun s:Sl UInt8=>[s.val]) (fun W s=>Rd W s.A s.n (u8s s.l)∧s.n≤s.c∧s.c≤140737488351232) :=
 Reads.mono ((zgy (N:=N) 1 1 Tryz.underlying22 kr kr om (ztk Tryz.underlying5)).imp
   fun W s h=>⟨s,rfl,by
    refine⟨?_,h.cap,?_⟩
    · have:=h.rd
      rw[zxh]at this;exact this.to1
    · have h2:s.c*1≤reachBytes:=h.reach
      unfold reachBytes at h2
      omega⟩) om
def toU8h:Value→UInt8
 | .int .u8 k=>UInt8.ofNat k.toNat
 | _=>0
theorem zif{P:Program}{B:Option Nat}{N n:Nat}{t e:TypeId}(ht:P.underlying t=some (.array n e))(hu:P.underlying e=some (.int .u8))(hc:P.cellsOf e=1)(hct:P.cellsOf t=n):Reads P B N t (fun l:List UInt8=>u8s l) (fun _ l=>l.length=n) :=
 ⟨fun {H enc W fuel cs x} hf hx hw hb=>by
  obtain⟨xs,m,rfl,rfl,hlen,hxl,hel⟩:=DataW.trod_array ht hx;refine⟨cs.map toU8h,?_,by rw[List.length_map,hlen,hct]⟩
  have hall:∀v∈cs,u8 (toU8h v)=v:=by
   intro v hv;obtain⟨i,hi,rfl⟩:=List.getElem_of_mem hv;have h1:=hel i om;rw[hc,Nat.mul_one,ge9 om]at h1;obtain⟨k,e1,_,hk⟩:=DataW.trod_int hu h1;rw[List.drop_eq_getElem_cons hi,List.take_succ_cons,List.take_zero]at e1
   injection e1 with e1 _
   rw[e1];exact congrArg (fun z=>Value.int .u8 z) (zmn hk).symm
  rw[u8s,List.map_map];have h2:cs.map (u8 ∘ toU8h)=cs.map id:=List.map_congr_left (fun v hv=>hall v hv)
  rw[h2,List.map_id]⟩
theorem zqn{P:Program}{B:Option Nat}{N:Nat}{t:TypeId}(ht:P.underlying t=some (.int .u64)):Reads P B N t (fun x:Nat=>[.int .u64 (x:Int)]) (fun _ x=>x<18446744073709551616) :=
 (zgz ht).imp fun _ n hn=>by
  have h2:IntKind.u64.min≤n∧n≤IntKind.u64.max:=by simpa[Lit.wf] using hn
  have h3:(0:Int)≤n∧n≤18446744073709551615:=h2;exact⟨n.toNat,by rw[Int.toNat_of_nonneg h3.1],by omega⟩
theorem zie{P:Program}{B:Option Nat}{N:Nat}{t:TypeId}(ht:P.underlying t=some (.int .i64)):Reads P B N t (fun n:Int=>[.int .i64 n]) (fun _ n=>(Lit.int .i64 n).wf=true):=zgz ht
theorem zok(B:Option Nat)(N:Nat):Reads Tryz.prog B N 81 (fun x:ByteArray × Nat × List UInt8 × List UInt8=>.string x.1 :: .int .u64 (x.2.1:Int) :: (u8s x.2.2.1++u8s x.2.2.2)) (fun _ x=>x.2.1<18446744073709551616∧x.2.2.1.length=32∧x.2.2.2.length=32) :=
 Reads.mono ((zfw (N:=N) Tryz.underlying81 kr
   (zcc (sz:=1) rfl kr (zqo Tryz.underlying9) (zcc (sz:=1) rfl kr (zqn Tryz.underlying45) (zcc (sz:=32) rfl kr (zif Tryz.underlying23 Tryz.underlying5 kr kr) (zcc (sz:=32) rfl kr (zif Tryz.underlying23 Tryz.underlying5 kr kr) zig))))).imp
   fun W ⟨a,b,c,d,_⟩ ⟨_,h2,h3,h4,_⟩=>⟨(a,b,c,d),by simp,h2,h3,h4⟩) om
theorem ztl(B:Option Nat)(N:Nat):Reads Tryz.prog B N 121 Ho.cells (fun _ h=>h.ok) :=
 Reads.mono ((zfw (N:=N) Tryz.underlying121 kr
   (zcc (sz:=66) rfl kr (zok B N) (zcc (sz:=1) rfl kr (zie Tryz.underlying3) (zcc (sz:=1) rfl kr (zie Tryz.underlying3) zig)))).imp
   fun W ⟨⟨a,b,c,d⟩,e,f,_⟩ ⟨⟨h1,h2,h3⟩,h4,h5,_⟩=>⟨⟨a,b,c,d,e,f⟩,by simp[Ho.cells,Ho.node],h1,h2,h3,h4,h5⟩) om
theorem zqp(B:Option Nat)(N:Nat):Reads Tryz.prog B N 57 (fun s:Sl Ho=>[s.val]) (SlIn B 68 104 Ho.cells (fun _ h=>h.ok)) :=
 Reads.mono (zgy (N:=N) 68 104 Tryz.underlying57 kr kr om (ztl B N)) om
end Go.Proofs.YtpgpaenloaphaaaGreat
