/- Part of the proof. -/
import Derived.Test.YtadopcjppijgiaaGreatSkp32
set_option linter.all false
set_option maxRecDepth 100000
set_option maxHeartbeats 0
namespace Go.Proofs.YtadopcjppijgiaaGreat
open Go.RowKit
structure Ho where
 nm:ByteArray
 id:Nat
 priv:List UInt8
 pub:List UInt8
 dl:Int
 fl:Int
namespace Ho
def node(h:Ho):List Value:=.string h.nm :: .int .u64 (h.id:Int) :: (u8s h.priv++u8s h.pub)
def cells(h:Ho):List Value:=h.node++[.int .i64 h.dl,.int .i64 h.fl]
def ok(h:Ho):Prop:=h.id<18446744073709551616∧h.priv.length=32∧h.pub.length=32∧(Lit.int .i64 h.dl).wf=true∧(Lit.int .i64 h.fl).wf=true
theorem node_len{h:Ho}(hk:h.ok):h.node.length=66:=by simp[node,zaa,hk.2.1,hk.2.2.1]
theorem cells_len{h:Ho}(hk:h.ok):h.cells.length=68:=by simp[cells,node_len hk]
theorem zu5(h:Ho):∀v∈h.node,v.oneCell'=true:=by
 intro v hv;simp only[node,List.mem_cons,List.mem_append]at hv
 rcases hv with rfl|rfl|hv|hv
 · rfl
 · rfl
 · exact zac _ _ hv
 · exact zac _ _ hv
theorem cells_one(h:Ho):∀v∈h.cells,v.oneCell'=true:=by
 intro v hv;simp only[cells,List.mem_append,List.mem_cons,List.not_mem_nil,or_false]at hv
 rcases hv with hv|rfl|rfl
 · exact zu5 h v hv
 · rfl
 · rfl
theorem at_id(h:Ho):h.cells[1]? = some (.int .u64 (h.id:Int)):=rfl
theorem at_dl{h:Ho}(hk:h.ok):h.cells[66]? = some (.int .i64 h.dl):=by
 rw[cells,ar9 (by rw[node_len hk];exact lr),node_len hk];rfl
theorem at_fl{h:Ho}(hk:h.ok):h.cells[67]? = some (.int .i64 h.fl):=by
 rw[cells,ar9 (by rw[node_len hk];omega),node_len hk];rfl
theorem at_node{h:Ho}(hk:h.ok):(h.cells.drop 0).take 66=h.node:=by rw[List.drop_zero,cells,List.take_left' (node_len hk)]
theorem at_pub{h:Ho}(hk:h.ok):(h.cells.drop 34).take 32=u8s h.pub:=by
 have e:h.cells=(.string h.nm :: .int .u64 (h.id:Int) :: u8s h.priv)++(u8s h.pub++[.int .i64 h.dl,.int .i64 h.fl]):=by simp[cells,node]
 rw[e,List.drop_left' (by simp[zaa,hk.2.1]),List.take_left' (by rw[zaa,hk.2.2.1])]
def bad(h:Ho):Bool:=decide (h.dl<0)|| decide (1000000<h.dl)|| decide (h.fl<0)|| decide (255<h.fl)
end Ho
theorem zbl{w:World}{A:Option Addr}{n:Nat}{l:List Ho}(h:RdS 68 w A n (l.flatMap Ho.cells))(hs:∀s∈l,s.ok){i:Nat}{s:Ho}(hi:l[i]? = some s)(hn:0<n):
 ∃b r,A=some ⟨b,r,none⟩∧b<w.heap.size∧w.rangeAt b (r+i*68) s.cells:=by
 obtain⟨b,r,e,hb,hc⟩:=h.2 hn;refine⟨b,r,e,hb,fun j v hv=>?_⟩;have h1:=zd1 (f:=Ho.cells) (sz:=68) (fun a ha=>Ho.cells_len (hs a ha)) hi hv;rw[Nat.add_assoc];exact hc _ _ h1
def pathE(last:Cm)(hs:List Ho):Nat :=
 if last.k.toNat<2∨4<last.k.toNat then 1 else if hs.any Ho.bad then 1 else if hs.length<1∨5<hs.length then 2 else if last.shaped=false then 3 else if (hs.drop 1).any (fun h=>h.id == 0) then 3 else 0
def pathC(last:Cm)(hs:List Ho)(i:Nat):Cm:=match hs[i]? with
 | some h=>if i+1<hs.length then ⟨1,UInt8.ofNat h.fl.toNat,h.dl.toNat,((hs[i+1]?.map Ho.id).getD 0),List.replicate 16 0⟩ else ⟨last.k,UInt8.ofNat h.fl.toNat,h.dl.toNat,0,last.m⟩
 | none=>Cm.zero
def pathL(last:Cm)(hs:List Ho):List Cm:=(List.range hs.length).map (pathC last hs)
section
attribute [local go_sem ↓] zch
theorem Ho.bad_ways{h:Ho}(hb:h.bad=true):h.dl<0∨(¬h.dl<0∧h.dl>1000000)∨(¬h.dl<0∧¬h.dl>1000000∧h.fl<0)∨(¬h.dl<0∧¬h.dl>1000000∧¬h.fl<0∧h.fl>255):=by
 simp only[Ho.bad,Bool.or_eq_true,decide_eq_true_eq]at hb;omega
theorem Ho.bad_no{h:Ho}(hb:h.bad=false):0≤h.dl∧h.dl≤1000000∧0≤h.fl∧h.fl≤255:=by
 simp only[Ho.bad,Bool.or_eq_false_iff,decide_eq_false_iff_not]at hb;omega
theorem zr7{last:Cm}{hs:List Ho}(h:last.k.toNat<2∨4<last.k.toNat):pathE last hs=1:=by unfold pathE;rw[if_pos h]
theorem zr6{last:Cm}{hs:List Ho}(h:¬(last.k.toNat<2∨4<last.k.toNat)){i:Nat}{o:Ho}(hi:hs[i]? = some o)(hb:o.bad=true):pathE last hs=1:=by
 unfold pathE
 rw[if_neg h,if_pos (List.any_eq_true.2 ⟨o,mg9 hi,hb⟩)]
theorem zku{hs:List Ho}(h2:∀(i:Nat) (o:Ho),hs[i]? = some o→o.bad=false):¬hs.any Ho.bad=true:=by
 intro h;obtain⟨o,ho,hb⟩:=List.any_eq_true.1 h;obtain⟨i,hi,rfl⟩:=List.getElem_of_mem ho;rw[h2 i _ (ge9 hi)]at hb
 cases hb
theorem zr5{last:Cm}{hs:List Ho}(h:¬(last.k.toNat<2∨4<last.k.toNat))(h2:∀(i:Nat) (o:Ho),hs[i]? = some o→o.bad=false)(h3:hs.length<1∨5<hs.length):pathE last hs=2:=by
 unfold pathE
 rw[if_neg h,if_neg (zku h2),if_pos h3]
theorem zr4{last:Cm}{hs:List Ho}(h:¬(last.k.toNat<2∨4<last.k.toNat))(h2:∀(i:Nat) (o:Ho),hs[i]? = some o→o.bad=false)(h3:¬(hs.length<1∨5<hs.length))(h4:last.shaped=false):pathE last hs=3:=by
 unfold pathE
 rw[if_neg h,if_neg (zku h2),if_neg h3,if_pos h4]
theorem zmo{last:Cm}{hs:List Ho}(h:¬(last.k.toNat<2∨4<last.k.toNat))(h2:∀(i:Nat) (o:Ho),hs[i]? = some o→o.bad=false)(h3:¬(hs.length<1∨5<hs.length))(h4:last.shaped=true){i:Nat}{o:Ho}(r:0<i)(hi:hs[i]? = some o)(ho:o.id=0):pathE last hs=3:=by
 unfold pathE
 rw[if_neg h,if_neg (zku h2),if_neg h3,if_neg (by rw[h4];decide),if_pos];refine List.any_eq_true.2 ⟨o,?_,by rw[ho];rfl⟩;have:(hs.drop 1)[i-1]? = some o:=by rw[List.getElem?_drop,show 1+(i-1)=i by omega];exact hi
 exact mg9 this
theorem zmn{last:Cm}{hs:List Ho}(h:¬(last.k.toNat<2∨4<last.k.toNat))(h2:∀(i:Nat) (o:Ho),hs[i]? = some o→o.bad=false)(h3:¬(hs.length<1∨5<hs.length))(h4:last.shaped=true)(h5:∀(i:Nat) (o:Ho),0<i→hs[i]? = some o→o.id≠0):pathE last hs=0:=by
 unfold pathE
 rw[if_neg h,if_neg (zku h2),if_neg h3,if_neg (by rw[h4];decide),if_neg];intro h6;obtain⟨o,ho,hb⟩:=List.any_eq_true.1 h6;obtain⟨i,hi,rfl⟩:=List.getElem_of_mem ho;rw[List.getElem_drop]at hb;rw[List.length_drop]at hi;have:=h5 (1+i) _ om (ge9 om);simp only[beq_iff_eq]at hb;exact this hb
theorem zhk(last:Cm)(hc:last.ok)(A:Option Addr)(n c:Nat)(hs:List Ho)(w:World)(h:RdS 68 w A n (hs.flatMap Ho.cells))(b3:∀s∈hs,s.ok)(hl:hs.length=n)(hn:n≤140737488355328):
 Calls Tryz.prog 40 #[.agg last.cells.toArray,.slice A n c] w fun e w'=>e=.returned (.int .i64 (pathE last hs:Int))∧Below w.heap.size w w':=by
 by_cases hk:last.k.toNat<2∨4<last.k.toNat
 · rw[zr7 hk]
   obtain⟨C,hC⟩:=ex9 (last.cells);have c0:(w.alloc (.cells C.toArray 63)).cell? ⟨w.heap.size,0,none⟩=some (.int .u8 last.k.toNat):=by rw[(Blk.new w _ _).cell,hC];rfl
   rw[←hC];clear hC;generalize last.k.toNat=K at *;have HE:Hid (Below w.heap.size w (w.alloc (.cells C.toArray 63))):=(Below.refl _ w).alloc lr _
   by_cases h2:K<2
   · have b6:(K:Int)<2:=om
     clear hk
     go_enter Tryz.func40, Tryz.ntmps40
     go_wp2;go_ret;exact⟨rfl,HE.o⟩
   · have b6:¬(K:Int)<2:=om
     have c4:(K:Int)>4:=om;clear hk
     go_enter Tryz.func40, Tryz.ntmps40
     go_wp2;go_ret;exact⟨rfl,HE.o⟩
 have a0:=qh (fun(i:Nat) (o:Ho) (hi:hs[i]? = some o) (hb:o.bad=true)=>zr6 hk hi hb);have V:=qh (fun h2 h3=>zr5 (hs:=hs) hk h2 h3);have X:=qh (fun h2 h3 h4=>zr4 (hs:=hs) hk h2 h3 h4);have a1:=qh (fun h2 h3 h4 (i:Nat) (o:Ho) h5 (hi:hs[i]? = some o) ho=>zmo hk h2 h3 h4 h5 hi ho);have Y:=qh (fun h2 h3 h4 h5=>zmn (hs:=hs) hk h2 h3 h4 h5);have a5:=qh (fun W=>zio last hc W);have b1:=qh (Cm.cells_len hc);obtain⟨C,hC⟩:=ex9 (last.cells);have a3:Hid (Blk (w.alloc (.cells C.toArray 63)) w.heap.size 63 C):=Blk.new w _ _;have c0:(w.alloc (.cells C.toArray 63)).cell? ⟨w.heap.size,0,none⟩=some (.int .u8 last.k.toNat):=by rw[a3.o.cell,hC];rfl
 rw[←hC]at a5 b1 ⊢;clear hC;have k2:¬(last.k.toNat:Int)<2:=om;have k4:¬(last.k.toNat:Int)>4:=om;generalize last.k.toNat=K at *;generalize pathE last hs=E at *;generalize last.shaped=SH at *;have HE:Hid (Below w.heap.size w (w.alloc (.cells C.toArray 63))):=(Below.refl _ w).alloc lr _;have HR:=qh (h.bel HE.o lr);have HK:=qh b3;have HL:=qh hl;clear h b3 hl hk hc
 go_enter Tryz.func40, Tryz.ntmps40
 go_wp2
 go_loop [18] (fun q=>∃k:Nat,k≤n∧q=.int .i64 k∧Hid (∀(i:Nat) (o:Ho),i<k→hs[i]? = some o→o.bad=false)) (fun q=>n-(intOf q).toNat)
 case atStart=>exact⟨0,Nat.zero_le _,rfl,fun i o hi=>absurd hi om⟩
 case round =>
  obtain⟨k,c3,rfl,HI⟩:=hrel
  by_cases hlt:k<n
  · have b2:(k:Int)<(n:Int):=om
    obtain⟨o,ho⟩:∃o,hs[k]? = some o:=⟨_,ge9 (by rw[HL.o];omega)⟩;have G:=HK.o o (mg9 ho);obtain⟨b,b7,rfl,b9,r⟩:=zbl HR.o HK.o ho om;have c8:=r 66 _ (Ho.at_dl G);have c7:=r 67 _ (Ho.at_fl G)
    by_cases hbad:o.bad=true
    · have he:=a0.o k o ho hbad
      have hw:=Ho.bad_ways hbad;subst he;generalize o.dl=D at *;generalize o.fl=F at *;have c9:Hid (hs[k]? = some o):=ho;clear ho G r hbad a0 V X a1 Y
      rcases hw with g1|⟨g1,g2⟩|⟨g1,g2,g3⟩|⟨g1,g2,g3,g4⟩ <;>
        (go_wp2;go_ret;exact⟨rfl,HE.o⟩)
    · have J:o.bad=false:=by simpa using hbad
      obtain⟨g1,g2,g3,g4⟩:=Ho.bad_no J
      have M:Hid (∀(i:Nat) (o:Ho),i<k+1→hs[i]? = some o→o.bad=false):=fun i o' hi hio=>by
       rcases Nat.lt_or_ge i k with h|h
       · exact HI.o i o' h hio
       · obtain rfl:i=k:=om
         rw[ho]at hio
         injection hio with hio
         subst hio;exact J
      generalize o.dl=D at *;generalize o.fl=F at *;have i1:¬D<0:=om;have i2:¬D>1000000:=om;have i3:¬F<0:=om;have i4:¬F>255:=om;clear ho G r hbad J g1 g2 g3 g4;go_wp2
      go_round
      case rel=>exact⟨k+1,by omega,by go_num,M⟩
      case measure=>simp[intOf];omega
  · have:k=n:=om
    subst this;have b2:¬(k:Int)<(k:Int):=om;have M:Hid (∀(i:Nat) (o:Ho),hs[i]? = some o→o.bad=false):=fun i o hi=>HI.o i o (by have:=(gi9.1 hi).1;rw[HL.o]at this;exact this) hi
    clear HI
    by_cases h5:k<1∨5<k
    · have he:=V.o M.o (by rw[HL.o];exact h5)
      subst he;clear a0 V X a1 Y
      rcases Nat.lt_or_ge k 1 with h6|h6
      · have h7:(k:Int)<1:=om
        go_wp2;go_ret;exact⟨rfl,HE.o⟩
      · have h7:¬(k:Int)<1:=om
        have h8:(k:Int)>5:=om;go_wp2;go_ret;exact⟨rfl,HE.o⟩
    · have h7:¬(k:Int)<1:=om
      have h8:¬(k:Int)>5:=om;have a9:Hid (¬(hs.length<1∨5<hs.length)):=by show ¬_;rw[HL.o];exact h5
      have c1:(ldAt 63 (.pointer (some ⟨w.heap.size,0,none⟩))).run Tryz.prog (w.alloc (.cells C.toArray 63))=.ok (.agg C.toArray) (w.alloc (.cells C.toArray 63)):=cm_ld a3.o b1.o;clear h5
      rcases SH with _|_
      · have he:=X.o M.o a9.o rfl
        subst he;clear a0 V X a1 Y
        go_wp2_with (go_at_call 68;(refine(a5.o _).mono ?_);rintro e w2 ⟨rfl,U⟩;have a2:=qtr HE U;clear U)
        go_ret;exact⟨rfl,a2.o⟩
      · have a7:=qh (a1.o M.o a9.o rfl)
        have a6:=qh (Y.o M.o a9.o rfl);clear a0 V X a1 Y
        go_wp2_with (go_at_call 68;(refine(a5.o _).mono ?_);rintro e w2 ⟨rfl,U⟩;have a2:=qtr HE U;have b5:=qh (HR.o.bel U lr);clear U)
        clear HR a3 c1
        go_loop [64] (fun q=>∃j:Nat,j≤k∧q=.int .i64 j∧Hid (∀(i:Nat) (o:Ho),i<j→0<i→hs[i]? = some o→o.id≠0)) (fun q=>k-(intOf q).toNat)
        case atStart=>exact⟨0,Nat.zero_le _,rfl,fun i o hi=>absurd hi om⟩
        case round =>
         obtain⟨j,c6,rfl,HJ⟩:=hrel
         by_cases hlt:j<k
         · have b4:(j:Int)<(k:Int):=om
           obtain⟨o,ho⟩:∃o,hs[j]? = some o:=⟨_,ge9 (by rw[HL.o];omega)⟩;have G:=HK.o o (mg9 ho);obtain⟨b,b7,rfl,b9,r⟩:=zbl b5.o HK.o ho om;have d1:=r 1 _ (Ho.at_id o)
           rcases Nat.eq_zero_or_pos j with a8|a8
           · subst a8
             have a4:Hid (∀(i:Nat) (o:Ho),i<0+1→0<i→hs[i]? = some o→o.id≠0):=fun i o h1 h2=>absurd h1 om
             clear ho G r d1;go_wp2
             go_round
             case rel=>exact⟨0+1,by omega,by go_num,a4⟩
             case measure=>simp[intOf];omega
           · have c5:(j:Int)>0:=om
             by_cases hid:o.id=0
             · have he:=a7.o j o a8 ho hid
               subst he;rw[hid]at d1;clear ho G r a7 a6;go_wp2;go_ret;exact⟨rfl,a2.o⟩
             · have c2:¬(o.id:Int)=0:=om
               have a4:Hid (∀(i:Nat) (o:Ho),i<j+1→0<i→hs[i]? = some o→o.id≠0):=fun i o' hi h0 hio=>by
                rcases Nat.lt_or_ge i j with h|h
                · exact HJ.o i o' h h0 hio
                · obtain rfl:i=j:=om
                  rw[ho]at hio
                  injection hio with hio
                  subst hio;exact hid
               generalize o.id=I at *;clear ho G r hid;go_wp2
               go_round
               case rel=>exact⟨j+1,by omega,by go_num,a4⟩
               case measure=>simp[intOf];omega
         · have:j=k:=om
           subst this;have he:=a6.o (fun i o h0 hi=>HJ.o i o (by have:=(gi9.1 hi).1;rw[HL.o]at this;exact this) h0 hi);subst he;have b4:¬(j:Int)<(j:Int):=om;clear a7 a6;go_wp2;go_ret;exact⟨rfl,a2.o⟩
end
section
theorem zeg{α:Type}(zs:List α):∀c,(List.replicate c zs).flatten.length=c*zs.length
 | 0=>by simp
 | c+1=>by rw[List.replicate_succ,List.flatten_cons,la9,zeg zs c,Nat.succ_mul];omega
theorem zen{α:Type}(zs:List α)(h:0<zs.length):∀(c i:Nat),i<c*zs.length→(List.replicate c zs).flatten[i]? = zs[i%zs.length]?
 | 0,i,hi=>by simp at hi
 | c+1,i,hi=>by
  rw[List.replicate_succ,List.flatten_cons]
  rcases Nat.lt_or_ge i zs.length with h1|h1
  · rw[ll9 h1,Nat.mod_eq_of_lt h1]
  · rw[ar9 h1,zen zs h c _ (by rw[Nat.succ_mul]at hi;omega),Nat.mod_eq_sub_mod h1]
theorem zhr(zs:List Value)(h:0<zs.length)(c:Nat):madeCells zs.toArray (c*zs.length)=((List.replicate c zs).flatten).toArray:=by
 apply Array.ext'
 apply List.ext_getElem?
 intro i
 unfold madeCells
 simp only[Array.toList_map,Array.toList_range,List.size_toArray];rw[List.getElem?_map]
 by_cases hi:i<c*zs.length
 · have hm:i%zs.length<zs.length:=Nat.mod_lt _ h
   rw[List.getElem?_range hi,zen zs h c i hi]
   simp[hm]
 · rw[List.getElem?_eq_none (by simpa using hi),List.getElem?_eq_none (by rw[zeg];omega)]
   rfl
section
variable{P:Program}{w:World}{ops:Array Oper}{rest:List Oper}{o:Oper}{a:Act}{K:Act→World→Prop}{Q:Exit→Act→World→Prop}
theorem ztv(x y:Operand)(t:TypeId)(ho:o.op=.makeSlice t x y)(e:TypeId)(z:Value)(bytes sz:Nat)(zs:List Value)(ht:P.underlying t=some (.slice e))(hi:(P.info? e).map (fun i=>(i.zero,i.size,i.bytes))=some (some z,sz,bytes))(hz:z.cells=zs.toArray)(G:zs.length=sz)(A:0<sz)
 (kl kc:IntKind) (ln lc:Int) (hx:a.eval x=.int kl ln) (hy:a.eval y=.int kc lc) (n c:Nat) (hn:ln=n) (hc:lc=c) (hnc:n≤c) (hbytes:bytes*c≤281474976710656) (h63:c≤140737488355328)
 (h:∀w',Blk w' w.heap.size e (List.replicate c zs).flatten→w.grownBy w' none→w'.heap.size=w.heap.size+1→K (a.put o.dst (.slice (some ⟨w.heap.size,0,none⟩) n c)) w'):o.wp P a w K Q:=by
 subst hn;subst hc;subst G
 cases hq:P.info? e with
 | none=>simp[hq]at hi
 | some i =>
  simp[hq]at hi
  obtain⟨D,E,r⟩:=hi;subst r
  have hr:=run_make (P:=P) w t e i z ht hq D kl kc n c om om (by
   have h:((i.bytes*c:Nat):Int)≤281474976710656:=om
   rwa [Int.natCast_mul]at h) om
  rw[E,hz]at hr;simp only[Int.toNat_natCast]at hr;rw[zhr _ A]at hr;refine zck (v:=.slice (some ⟨w.heap.size,0,none⟩) n c) ?_ (h (w.alloc (.cells (List.replicate c zs).flatten.toArray e)) (Blk.new' rfl rfl) (World.grownBy_alloc w _ none) sy)
  unfold execOp
  simp only[ho,hx,hy,Sem.run_bind,hr,Sem.run_pure,Result.andThen_ok]
theorem zky(r:o.guard=none)(x y:Operand)(t:TypeId)(ho:o.op=.makeSlice t x y)(e:TypeId)(z:Value)(bytes sz:Nat)(zs:List Value)(ht:P.underlying t=some (.slice e))(hi:(P.info? e).map (fun i=>(i.zero,i.size,i.bytes))=some (some z,sz,bytes))(hz:z.cells=zs.toArray)(D:zs.length=sz)(A:0<sz)
 (kl kc:IntKind) (ln lc:Int) (hx:a.eval x=.int kl ln) (hy:a.eval y=.int kc lc) (n c:Nat) (hn:ln=n) (hc:lc=c) (hnc:n≤c) (hbytes:bytes*c≤281474976710656) (h63:c≤140737488355328)
 (h:∀w',Blk w' w.heap.size e (List.replicate c zs).flatten→w.grownBy w' none→w'.heap.size=w.heap.size+1→wpList P ops Q rest (a.put o.dst (.slice (some ⟨w.heap.size,0,none⟩) n c)) w'):wpList P ops Q (o :: rest) a w :=
 zb2 r fun _ hK=>ztv x y t ho e z bytes sz zs ht hi hz D A kl kc ln lc hx hy n c hn hc hnc hbytes h63 fun w' h1 h2 h3=>hK _ _ (h w' h1 h2 h3)
end
def zcmc:List Value:=Cm.zero.cells
theorem iCm:(Tryz.prog.info? 63).map (fun i=>(i.zero,i.size,i.bytes))=some (some (.agg Cm.zero.cells.toArray),20,32):=by kernel_rfl
def cm1:Cm:=⟨1,0,0,0,List.replicate 16 0⟩
theorem zto(w:World):(Instr.build 63 #[(0,.int .u8 1)]).run Tryz.prog w=.ok (.agg cm1.cells.toArray) w:=by kernel_rfl
def pathB(last:Cm)(hs:List Ho)(k:Nat):List Value:=((List.range k).map (pathC last hs)).flatMap Cm.cells++(List.replicate (hs.length-k) Cm.zero.cells).flatten
end
def TwoV(B G T:Nat)(w:World)(v10 v11:Value)(n10 n11:Nat)(acc:List Value)(sc:List (List UInt8))(vs:List Value):Prop :=
 w.ownsRow B T 192 v10 n10 acc∧w.ownsRow B 22 1 v11 n11 vs∧sc.length=vs.length∧(∀b,v10.ownBlock=some b→v11.ownBlock≠some b) ∧
   ∀(i:Nat) (v:Value),vs[i]? = some v→∃l A c,v=.slice A 32 c∧32≤c∧sc[i]? = some l∧Rd w A 32 (u8s l)∧∀ad,A=some ad→ad.block<w.heap.size∧ad.block≠G∧v10.ownBlock≠some ad.block∧v11.ownBlock≠some ad.block
def Two(B G T:Nat)(w:World)(v10 v11:Value)(n10 n11:Nat)(acc:List Value)(sc:List (List UInt8)):Prop:=∃vs:List Value,TwoV B G T w v10 v11 n10 n11 acc sc vs
theorem Rd.blk_lt{w:World}{A:Option Addr}{n:Nat}{xs:List Value}(h:Rd w A n xs)(hn:0<n):∀ad,A=some ad→ad.block<w.heap.size:=by
 intro ad e;obtain⟨b,r,e2,hb,_⟩:=h.2 hn;rw[e2]at e
 injection e with e
 subst e;exact hb
theorem Rd.grownR{w w':World}{A:Option Addr}{n:Nat}{xs:List Value}{row:Option Nat}(h:Rd w A n xs)(hg:w.grownBy w' row)(D:∀ad,A=some ad→row≠some ad.block):Rd w' A n xs:=by
 refine⟨h.1,fun hn=>?_⟩;obtain⟨b,r,e,hb,hc⟩:=h.2 hn;refine⟨b,r,e,Nat.lt_of_lt_of_le hb hg.size,fun j u hu=>?_⟩;exact hg.cell (hc j u hu) (fun e2=>D _ e e2.symm)
theorem Two.below{B G T:Nat}{w w':World}{r J:Value}{D I:Nat}{E:List Value}{sc:List (List UInt8)}(h:Two B G T w r J D I E sc)(hB:Below w.heap.size w w'):Two B G T w' r J D I E sc:=by
 obtain⟨vs,h1,h2,h3,h4,h5⟩:=h;refine⟨vs,zas h1 hB,zas h2 hB,h3,h4,fun i v hv=>?_⟩;obtain⟨l,A,c,e,hc,hl,hr,ha⟩:=h5 i v hv;exact⟨l,A,c,e,hc,hl,hr.below hB,fun ad e2=>⟨Nat.lt_of_lt_of_le (ha ad e2).1 hB.size,(ha ad e2).2⟩⟩
theorem Two.only{B G T:Nat}{w w':World}{r J:Value}{D I:Nat}{E:List Value}{sc:List (List UInt8)}(h:Two B G T w r J D I E sc)(ho:Only w w' G)(hG:G<B):Two B G T w' r J D I E sc:=by
 obtain⟨vs,h1,h2,h3,h4,h5⟩:=h;refine⟨vs,zc5 h1 ho (fun k hk=>by have:=(h1.lt k hk).1;omega),zc5 h2 ho (fun k hk=>by have:=(h2.lt k hk).1;omega),h3,h4,fun i v hv=>?_⟩;obtain⟨l,A,c,e,hc,hl,hr,ha⟩:=h5 i v hv;exact⟨l,A,c,e,hc,hl,ho.rd hr (fun ad e2=>(ha ad e2).2.1),fun ad e2=>⟨Nat.lt_of_lt_of_le (ha ad e2).1 ho.grown.size,(ha ad e2).2⟩⟩
theorem Two.rdB{B G T:Nat}{w:World}{E:Value}{D:Option Addr}{I r J:Nat}{M:List Value}{sc:List (List UInt8)}(h:Two B G T w E (.slice D r J) I r M sc):RdB w D r sc:=by
 obtain⟨vs,_,h2,h3,_,h5⟩:=h;have hr:=Rd.of_own h2;refine⟨vs,hr,by rw[h3,hr.1],fun i v hv=>?_⟩;obtain⟨l,A,c,e,hc,hl,hr,_⟩:=h5 i v hv;exact⟨l,hl,A,32,c,e,hc,hr⟩
theorem Two.own10{B G T:Nat}{w:World}{r I:Value}{A E:Nat}{D:List Value}{sc:List (List UInt8)}(h:Two B G T w r I A E D sc):w.ownsRow B T 192 r A D:=by
 obtain⟨vs,h1,_⟩:=h;exact h1
theorem Two.own11{B G T:Nat}{w:World}{D A:Value}{E r:Nat}{I:List Value}{sc:List (List UInt8)}(h:Two B G T w D A E r I sc):∃vs,w.ownsRow B 22 1 A r vs:=by
 obtain⟨vs,_,h2,_⟩:=h;exact⟨vs,h2⟩
theorem Two.app10{B G T:Nat}{w w':World}{E r v':Value}{V M n':Nat}{X D:List Value}{sc:List (List UInt8)}(h:Two B G T w E r V M X sc)(ho:w'.ownsRow B T 192 v' n' D)(hg:w.grownBy w' E.ownBlock)(I:v'.ownBlock=E.ownBlock∨v'.ownBlock=some w.heap.size):
 Two B G T w' v' r n' M D sc:=by
 obtain⟨vs,h1,h2,h3,h4,h5⟩:=h;have U:∀b,r.ownBlock=some b→b<w.heap.size:=fun b hb=>(h2.lt b hb).2
 refine⟨vs,ho,h2.kept hg ?_,h3,?_,fun i v hv=>?_⟩
 · cases hv:r.ownBlock with
   | none=>exact .inl rfl
   | some k=>exact .inr (fun e=>h4 k e.symm hv)
 · intro b hb J
   rcases I with e|e
   · exact h4 b (e ▸ hb) J
   · rw[e]at hb
     injection hb with hb
     subst hb;exact absurd (U _ J) (Nat.lt_irrefl _)
 · obtain⟨l,A,c,e,hc,hl,hr,ha⟩:=h5 i v hv
   refine⟨l,A,c,e,hc,hl,hr.grownR hg (fun ad e2=>(ha ad e2).2.2.1),fun ad e2=>?_⟩;obtain⟨a1,a2,a3,a4⟩:=ha ad e2;refine⟨Nat.lt_of_lt_of_le a1 hg.size,a2,fun e3=>?_,a4⟩
   rcases I with e|e
   · exact a3 (e ▸ e3)
   · rw[e]at e3
     injection e3 with e3
     omega
theorem Two.app11{B G T:Nat}{w w':World}{r E v':Value}{J a6 n' c:Nat}{A:Option Addr}{U:List Value}{vs:List Value}{sc:List (List UInt8)}{l:List UInt8}(h:TwoV B G T w r E J a6 U sc vs)
 (ho:w'.ownsRow B 22 1 v' n' (vs++[.slice A 32 c])) (hg:w.grownBy w' E.ownBlock) (hat:v'.ownBlock=E.ownBlock∨v'.ownBlock=some w.heap.size)
 (hc:32≤c) (hr:Rd w A 32 (u8s l)) (ha:∀ad,A=some ad→ad.block≠G∧r.ownBlock≠some ad.block∧E.ownBlock≠some ad.block):Two B G T w' r v' J n' U (sc++[l]):=by
 obtain⟨h1,h2,h3,h4,h5⟩:=h;have X:∀b,r.ownBlock=some b→b<w.heap.size:=fun b hb=>(h1.lt b hb).2
 refine⟨vs++[.slice A 32 c],h1.kept hg ?_,ho,by simp[h3],?_,fun i v hv=>?_⟩
 · cases hv:r.ownBlock with
   | none=>exact .inl rfl
   | some k=>exact .inr (fun e=>h4 k hv e.symm)
 · intro b hb D
   rcases hat with e|e
   · exact h4 b hb (e ▸ D)
   · rw[e]at D
     injection D with D
     subst D;exact absurd (X _ hb) (Nat.lt_irrefl _)
 · have I:∀ad:Addr,ad.block<w.heap.size→E.ownBlock≠some ad.block→v'.ownBlock≠some ad.block:=fun ad a1 a4 e3=>by
    rcases hat with e|e
    · exact a4 (e ▸ e3)
    · rw[e]at e3
      injection e3 with e3
      omega
   rcases Nat.lt_or_ge i vs.length with hi|hi
   · rw[ll9 hi]at hv
     obtain⟨l',A',c',e,a0,a5,Y,V⟩:=h5 i v hv;refine⟨l',A',c',e,a0,by rw[ll9 (by rw[h3];exact hi)];exact a5,Y.grownR hg (fun ad e2=>(V ad e2).2.2.2),fun ad e2=>?_⟩;obtain⟨a1,a2,a3,a4⟩:=V ad e2;exact⟨Nat.lt_of_lt_of_le a1 hg.size,a2,a3,I ad a1 a4⟩
   · rw[ar9 hi]at hv
     have M:i-vs.length=0:=by
      have:=(gi9.1 hv).1
      simp at this
      omega
     rw[M]at hv;simp only[List.getElem?_cons_zero,Option.some.injEq]at hv;subst hv;refine⟨l,A,c,rfl,hc,by rw[ar9 (by rw[h3];exact hi),h3,M];rfl,hr.grownR hg (fun ad e2=>(ha ad e2).2.2),fun ad e2=>?_⟩;have a1:=hr.blk_lt om ad e2;exact⟨Nat.lt_of_lt_of_le a1 hg.size,(ha ad e2).1,(ha ad e2).2.1,I ad a1 (ha ad e2).2.2⟩
theorem Two.fresh{B G T:Nat}{w:World}{r A:Value}{E D:Nat}{I:List Value}{sc:List (List UInt8)}(h:Two B G T w r A E D I sc)(hG:G<w.heap.size)(o:Nat):∀ad:Addr,(some ⟨w.heap.size,o,none⟩:Option Addr)=some ad→ad.block≠G∧r.ownBlock≠some ad.block∧A.ownBlock≠some ad.block:=by
 intro ad e
 injection e with e
 subst e;obtain⟨vs,h1,h2,_⟩:=h;refine⟨by show w.heap.size≠_;omega,fun e2=>?_,fun e2=>?_⟩
 · exact absurd (h1.lt _ e2).2 (Nat.lt_irrefl _)
 · exact absurd (h2.lt _ e2).2 (Nat.lt_irrefl _)
section
attribute [local go_sem ↓] zsx zb0 zqr
theorem RdS.ofOwn2{w:World}{base n c sz:Nat}{e:TypeId}{A:Option Addr}{xs:List Value}(h:w.ownsRow base e sz (.slice A n c) n xs):RdS sz w A n xs:=by
 refine⟨h.1,fun hn=>?_⟩
 rcases h.2 with ⟨_,h0⟩|⟨g,G,D,hv,_,hg,E,_,I,r⟩
 · omega
 · injection hv with hA
   subst hA;refine⟨g,0,rfl,(Array.getElem?_eq_some_iff.1 hg).1,fun j u hu=>?_⟩;rw[cell_of_row w g (0+j) D e (0,0) hg,Nat.zero_add];rw[←r,List.getElem?_take]at hu
   split at hu
   · simpa using hu
   · cases hu
theorem st32{w:World}{g:Nat}{t:TypeId}{Z X:List Value}(hb:Blk w g t Z)(hz:Z.length=32)(hx:X.length=32)(h1:∀v∈X,v.oneCell'=true):∃w',(stAt 27 (.pointer (some ⟨g,0,none⟩)) (.agg X.toArray)).run Tryz.prog w=.ok () w'∧Only w w' g∧Blk w' g t X:=by
 refine⟨w.setCells g 0 X,zcr hb 27 0 X om h1 (by rw[hx];exact hd24),Only.of_setCells w g 0 X,?_⟩;have h:=za2 g t X 0 Z w hb om
 rwa [zap _ _ om]at h
theorem iSp:(Tryz.prog.info? 83).map (fun i=>(i.zero,i.size,i.bytes))=some (some (.agg (u8s (List.replicate 192 0)).toArray),192,192):=by kernel_rfl
theorem eSpz:ElemIs Tryz.prog 83 192 192:=ElemIs.of iSp (by show(u8s (List.replicate 192 0)).toArray.size=192;rw[List.size_toArray,zaa,lp9]) om
theorem zw7(n:Nat):u8s (List.replicate n 0)=List.replicate n (.int .u8 0):=by simp[u8s,u8]
theorem zub(A C:Option Addr)(n c m d:Nat)(w:World)(h:n≠32∨m<1∨5<m):
 Calls Tryz.prog 20 #[.slice A n c,.slice C m d] w fun e w'=>e=.returned (.tuple #[.slice none 0 0,.int .i64 2])∧w=w':=by
 rcases Decidable.em (n=32)with h1|h1
 · subst h1
   rcases Nat.lt_or_ge m 1 with h2|h2
   · have h3:(m:Int)<1:=om
     clear h
     go_enter Tryz.func20, Tryz.ntmps20
     go_wp2;go_ret2;exact⟨rfl,rfl⟩
   · have h3:¬(m:Int)<1:=om
     have h4:(m:Int)>5:=om;clear h
     go_enter Tryz.func20, Tryz.ntmps20
     go_wp2;go_ret2;exact⟨rfl,rfl⟩
 · have hn:((n:Int) != 32)=true:=by rw[bne_iff_ne];omega
   clear h h1
   go_enter Tryz.func20, Tryz.ntmps20
   go_wp2;go_ret2;exact⟨rfl,rfl⟩
theorem zqz(A C:Option Addr)(c m d:Nat)(xs:List UInt8)(D:List (List UInt8))(w:World)(hx:Rd w A 32 (u8s xs))(hc:32≤c)(hp:RdB w C m D)(m9:∀p∈D,p.length=32)(r1:1≤m)(hm:m≤5):
 Calls Tryz.prog 20 #[.slice A 32 c,.slice C m d] w fun e w'=>∃A' n' c',e=.returned (.tuple #[.slice A' n' c',.int .i64 ((sch [] [xs] (pubB xs) D).2:Int)])∧n'≤c'∧RdS 192 w' A' n' ((sch [] [xs] (pubB xs) D).1.flatMap Sp.cells)∧(sch [] [xs] (pubB xs) D).1.length=n'∧Below w.heap.size w w':=by
 obtain⟨R,hR⟩:=ex9 (sch [] [xs] (pubB xs) D);rw[←hR];have o7:Hid (sch [] [xs] (pubB xs) D=R):=hR.symm;have HX:=qh hx;have p3:=qh hx.len;have m7:=qh hp;have j9:=qh m9;have p8:Hid (D.length=m):=by obtain⟨_,_,h,_⟩:=hp;exact h
 have HC:=qh hc;have q0:=qh (hx.blk_lt om);have m1:¬(m:Int)<1:=om;have m5:¬(m:Int)>5:=om;have g5:Hid (∀W,Rd W A 32 (u8s xs)→Calls Tryz.prog 41 #[.slice A 32 c] W fun e w'=>e=.returned (.tuple #[.agg (u8s (pubB xs)).toArray,.int .i64 0])∧Below W.heap.size W w'):=fun W h=>zpj A c xs W h
 have j6:Hid (Good (pubB xs)):=znz hx.len;have i7:Hid ((u8s (pubB xs)).length=32):=by show _=_;rw[zaa,j6.o.len]
 clear hx hp m9 hR hc
 go_enter Tryz.func20, Tryz.ntmps20
 go_wp2
 go_loop [33] (fun q=>∃k:Nat,k≤m∧q=.int .i64 k) (fun q=>m-(intOf q).toNat)
 case atStart=>exact⟨0,Nat.zero_le _,rfl⟩
 case round =>
  obtain⟨k,r0,rfl⟩:=hrel
  by_cases hlt:k<m
  · have o5:(k:Int)<(m:Int):=om
    obtain⟨b,p6,A1,n1,c1,l,rfl,hb,c8,hc,p1,c4⟩:=m7.o.at_ hlt;have hl:=c4.len;rw[j9.o l (mg9 c8.o)]at hl;subst hl;clear c4 c8;go_wp2
    go_round
    case rel=>exact⟨k+1,by omega,by go_num⟩
    case measure=>simp[intOf];omega
  · obtain rfl:k=m:=om
    have o5:¬(k:Int)<(k:Int):=om;have i0:(0:Int)≤(k:Int):=om
    go_wp2_with (first
     | (go_at_call 41;(refine(g5.o _ (by exact HX.o)).mono ?_);rintro e w1 ⟨rfl,j8⟩;have c7:=qh j8;clear j8)
     | (refine zab rfl 27 (.tmp 8) (.tmp 44) rfl w1.heap.size (u8s (pubB xs)) rr rr 27 o32 (by exact Blk.new' rfl rfl) (by rw[i7.o];exact hd24) (zac _) (by rw[i7.o];rfl) ?_;intro w2 c6 m2;have j3:=qh (m2.below (c7.o.alloc c7.o.size _) c7.o.size (Nat.le_trans c7.o.size sy));have c5:=qh c6;clear c6 m2)
     | (at_make;refine zf2 rfl (.const (.int .i64 0)) (.tmp 50) 74 rfl 83 (.agg (u8s (List.replicate 192 0)).toArray) 192 192 (.int .u8 0) Tryz.underlying74 iSp (by rw[←zw7];rfl) om .i64 .i64 0 (k:Int) rr rr 0 k rfl rfl om om om ?_;intro w3 m3 i2 j7;have f4:=qh (j3.o.trans ((zad i2).mono j3.o.size));have l6:=qh (c5.o.below (zad i2) c5.o.lt)
        have o1:Hid (w3.ownsRow (w1.heap.size+1) 83 192 (.slice (some ⟨w2.heap.size,0,none⟩) 0 k) 0 []):=by
         have:=zbg (base:=w1.heap.size+1) m3 (by have:=c5.o.lt;omega) 0 k 192 (Nat.zero_le _) (by rw[zao]) om
         rwa [Nat.zero_mul,List.take_zero]at this
        have o3:=Nat.le_of_eq j7.symm
        clear m3 i2 j7))
    have e4:=qh c7.o.size
    have o9:Hid (Two (w1.heap.size+1) w1.heap.size 83 (w3.alloc (.cells #[.slice A 32 c] 22)) (.slice (some ⟨w2.heap.size,0,none⟩) 0 k) (.slice (some ⟨w3.heap.size,0,none⟩) 1 1) 0 1 ([].flatMap Sp.cells) [xs]):=by
     refine⟨[.slice A 32 c],zas o1.o ((Below.refl _ _).alloc lr _),zbg (Blk.new w3 22 [.slice A 32 c]) (by have:=c5.o.lt;omega) 1 1 1 lr rfl om,rfl,fun b hb c6=>?_,fun i v hv=>?_⟩
     · simp only[Value.ownBlock]at hb c6
       injection c6 with c6
       injection hb with hb
       omega
     · have hi:i=0:=by
        have:=(gi9.1 hv).1
        simpa using this
       subst hi;simp only[List.getElem?_cons_zero,Option.some.injEq]at hv;subst hv;refine⟨xs,A,c,rfl,HC.o,rfl,(HX.o.below f4.o).alloc _,fun ad e=>?_⟩;have h1:=q0.o ad e;have h2:=c5.o.lt;have h3:=e4.o;refine⟨by simp;omega,by omega,fun e2=>?_,fun e2=>?_⟩ <;> (simp only[Value.ownBlock]at e2;injection e2 with e2;omega)
    have k8:Hid (Blk (w3.alloc (.cells #[.slice A 32 c] 22)) w1.heap.size 27 (u8s (pubB xs))):=l6.o.alloc _;have n0:Hid (Below w.heap.size w (w3.alloc (.cells #[.slice A 32 c] 22))):=f4.o.alloc f4.o.size _;have g6:Hid (∀s∈[xs],s.length=32):=by intro s hs;simp at hs;rw[hs];exact p3.o
    clear c7 j3 c5 o1 f4 l6 o3 g5
    go_loopg [10,11,56] k (fun kk q10 q11 q wr=>∃(j:Nat) (M:List Sp) (sc:List (List UInt8)) (al:List UInt8) (e1 a9:Option Addr) (c3 c9:Nat),j<k∧kk=k-j∧q=.int .i64 j∧q10=.slice e1 j c3∧q11=.slice a9 (j+1) c9∧j≤c3∧Hid (sch M sc al (D.drop j)=R)∧Hid (M.length=j)∧Hid (Good al)∧Hid (∀s∈sc,s.length=32)∧Hid (Two (w1.heap.size+1) w1.heap.size 83 wr (.slice e1 j c3) (.slice a9 (j+1) c9) j (j+1) (M.flatMap Sp.cells) sc)∧Hid (Blk wr w1.heap.size 27 (u8s al))∧Hid (Below w.heap.size w wr))
    case atStart=>exact⟨0,[],[xs],pubB xs,_,_,_,_,by omega,rfl,rfl,rfl,rfl,Nat.zero_le _,by rw[List.drop_zero];exact o7,rfl,j6,g6,o9,k8,n0⟩
    case round =>
     clear k8 n0 o9 g6 j6 i7 o7;obtain⟨j,M,sc,al,e1,a9,c3,c9,p4,n9,rfl,rfl,rfl,q7,HV,l7,d6,o2,HT,i9,f5⟩:=hrel;have p5:=qh n9;clear n9;have q8:(j:Int)<(k:Int):=om;obtain⟨b,p6,A1,n1,c1,l,rfl,hb,c8,hc,p1,c4⟩:=(m7.o.below f5.o).at_ p4;have hl:=c4.len;rw[j9.o l (mg9 c8.o)]at hl;subst hl;have i5:=qh c4
     have o6:D.drop j=l :: D.drop (j+1):=by
      obtain⟨hj,he⟩:=gi9.1 c8.o;rw[List.drop_eq_getElem_cons hj,he]
     have hv:=HV.o;rw[o6,sch]at hv;have f9:=zf0 sc (nrm l) (zec l);obtain⟨V,hV⟩:=ex9 (chV (nrm l) sc)
     have i1:Hid (∀W,Rd W A1 32 (u8s l)→RdB W a9 (j+1) sc→Calls Tryz.prog 42 #[.slice A1 32 c1,.slice a9 (j+1) c9] W fun e w'=>e=.returned (.tuple #[.agg (u8s V.1).toArray,.int .i64 (V.2:Int)])∧Below W.heap.size W w'):=fun W h1 h2=>by
      rw[hV];exact zte A1 a9 c1 (j+1) c9 l sc W h1 h2 o2.o om
     rw[←hV]at hv f9;have a7:Hid ((u8s V.1).length=32):=by show _=_;rw[zaa,f9]
     have f0:=qh hv;have k2:=qh f9;have d9:Hid ((u8s al).length=32):=by show _=_;rw[zaa,d6.o.len]
     clear c4 c8 o6 hv f9 hV HV
     by_cases he:V.2=0
     · have hv:=f0.o
       rw[if_pos he]at hv;have m0:(V.2:Int)=0:=by rw[he];rfl
       generalize (V.2:Int)=VE at *;subst m0;have a2:=znm d6.o.len k2.o;have f8:Hid (∀W,Calls Tryz.prog 43 #[.agg (u8s al).toArray,.agg (u8s V.1).toArray] W fun e w'=>e=.returned (.tuple #[.agg (stp al V.1).cells.toArray,.int .i64 0])∧Below W.heap.size W w'):=fun W=>zo1 al V.1 d6.o.len k2.o W
       have e9:Hid (M.flatMap Sp.cells++(stp al V.1).cells=(M++[stp al V.1]).flatMap Sp.cells):=by show _=_;simp
       have I:Hid ((stp al V.1).cells.length=192):=Sp.cells_len a2;have c2:Hid (∀v∈(stp al V.1).cells,v.oneCell'=true):=Sp.cells_one _;have f3:Hid ((Tryz.prog.info? 83).map (fun i=>((i.zero.map (fun z=>z.cells.size)),i.size))=some (some (stp al V.1).cells.length,(stp al V.1).cells.length)):=by rw[I.o];exact z1sp
       have i6:Hid (∀W,Calls Tryz.prog 44 #[.agg (stp al V.1).cells.toArray] W fun e w'=>e=.returned (.tuple #[.agg (u8s (mB (stp al V.1).blind al)).toArray,.int .i64 0])∧Below W.heap.size W w'):=fun W=>by
        have h5:=zu6 (stp al V.1) a2 W;have h6:mE (stp al V.1).blind (stp al V.1).alpha=0:=d6.o.mE a2.2.2.2.1;rw[h6]at h5;exact h5
       have n7:Hid (Good (mB (stp al V.1).blind al)):=d6.o.mB a2.2.2.2.1;have l8:Hid ((stp al V.1).blind.length=32):=a2.2.2.2.1
       have h8:Hid (∀W G,Blk W G 83 (stp al V.1).cells→(ldAt 27 (.pointer (some ⟨G,96,none⟩))).run Tryz.prog W=.ok (.agg (u8s (stp al V.1).blind).toArray) W):=fun W G hb =>
        zal hb _ 96 (u8s (stp al V.1).blind) (by rw[zaa,a2.2.2.2.1,Sp.cells,za9,zay,Sp.at_blind a2]) _ Tryz.underlying27 rfl (by rw[zaa,a2.2.2.2.1];exact hd24)
       have n4:sch (M++[stp al V.1]) (sc++[(stp al V.1).blind]) (mB (stp al V.1).blind al) (D.drop (j+1))=R:=hv;have h4:=qh n4;clear hv n4 he f0 a2;generalize (stp al V.1).blind=BL at *;obtain⟨ST,k0⟩:=ex9 (stp al V.1);rw[←k0]at f8 e9 I c2 f3 i6 h8 h4;obtain⟨CS,m4⟩:=ex9 (ST.cells);rw[←m4]at f8 e9 I c2 f3 i6 h8;generalize mB BL al=NA at *;clear k0 m4
       by_cases hlast:j+1=k
       · have p9:(j:Int)+1=(k:Int):=om
         have hv:=h4.o;rw[List.drop_eq_nil_of_le (by rw[p8.o];omega),sch]at hv;have j2:Hid (R.1=M++[ST]∧R.2=0):=by show _∧_;rw[←hv];exact⟨rfl,rfl⟩
         clear hv hlast
         go_wp2_with (first
         |             (go_at_call 42;(refine(i1.o _ (by exact i5.o) (by exact HT.o.rdB)).mono ?_);rintro e w6 ⟨rfl,J⟩;have a4:=qtr f5 J;have j5:=qh (HT.o.below J);have h9:=qbl i9 J;have i4:=qh J.size;clear J)
         | (refine zab rfl 27 (.tmp 14) (.tmp 65) rfl w6.heap.size (u8s V.1) rr rr 27 o32 (by exact Blk.new' rfl rfl) (by rw[a7.o];exact hd24) (zac _) (by rw[a7.o];rfl) ?_;intro w7 d0 b3;have a0:Below w6.heap.size w6 w7:=b3.below ((Below.refl _ _).alloc lr _) lr sy;have e5:=qtr a4 a0;have j0:=qh (j5.o.below a0);have d3:=qbl h9 a0;have j4:=qh (Nat.le_trans i4.o a0.size);have l1:=zev d3.o d9.o;have l2:=zev d0 a7.o;clear d0 b3 a0)
         | (go_at_call 43;(refine(f8.o _).mono ?_);rintro e w8 ⟨rfl,Y⟩;have h7:=qtr e5 Y;have i3:=qh (j0.o.below Y);have j1:=qbl d3 Y;have f6:=qh (Nat.le_trans j4.o Y.size);clear Y l1 l2)
         | (refine zab rfl 83 (.tmp 16) (.tmp 74) rfl w8.heap.size CS rr rr 83 (u8s (List.replicate 192 0)) (by exact Blk.new' rfl zcSp) (by rw[I.o];exact hd69) c2.o (by rw[I.o];rfl) ?_;intro w9 b2 e6;have a3:Below w8.heap.size w8 w9:=e6.below ((Below.refl _ _).alloc lr _) lr sy;have b1:=qtr h7 a3;have b4:=qh (i3.o.below a3);have d4:=qbl j1 a3;have i8:=qh b2;have l3:=sp_ld b2 I.o;clear b2 e6 a3)
         | (refine zb6 rfl 74 83 (.tmp 80) rfl CS rr Tryz.underlying74 f3.o (by rw[I.o];omega) (by rw[I.o];omega) ?_)
         | (at_builtin;refine zah rfl (.tmp 79) (.tmp 81) 74 rfl (w1.heap.size+1) 83 192 192 Tryz.underlying74 eSpz (.slice e1 j c3) j (M.flatMap Sp.cells) rr (by exact zas b4.o.own10 ((Below.refl _ _).alloc lr _)) (some ⟨w9.heap.size,0,none⟩) 1 1 CS rr (by exact RdS.new w9 _ CS 192 I.o) c2.o om om (by have:=d4.o.lt;simp;omega) ?_;intro f7 f2 q6 r a8 E X;have a1:=b4.o.own10;have U:=HT.o.own10;have d8:=qh ((b1.o.alloc b1.o.size _).grown E (Nat.le_trans b1.o.size sy) (fun k hk=>by have h1:=(a1.lt k hk).1;have h2:=e4.o;omega));rw[e9.o]at r;have g3:=qh ((b4.o.below ((Below.refl _ _).alloc lr _)).app10 r E (by simpa using X));have g8:=qh ((d4.o.alloc _).grown E (fun e=>by have h1:=(a1.lt _ e.symm).1;omega));have d7:=qh ((i8.o.alloc _).grown E (fun e=>by have h1:=(U.lt _ e.symm).2;have h2:=f6.o;omega));have e8:=qh r;have b5:=qh a8;clear r a8 E X a1 U l3))
         go_ret2;exact⟨f7,j+1,f2,by rw[j2.o.2];rfl,b5.o,by rw[j2.o.1];exact RdS.ofOwn2 e8.o,by rw[j2.o.1,la9,l7.o];rfl,d8.o⟩
       · skip
         have p9:¬(j:Int)+1=(k:Int):=om;have e3:Hid ((u8s BL).length=32):=by show _=_;rw[zaa,l8.o]
         have o4:Hid ((u8s NA).length=32):=by show _=_;rw[zaa,n7.o.len]
         have k7:Hid ((M++[ST]).length=j+1):=by show _=_;rw[la9,l7.o];rfl
         have k1:Hid (∀s∈sc++[BL],s.length=32):=by
          intro s hs
          rcases List.mem_append.1 hs with h|h
          · exact o2.o s h
          · simp at h;rw[h];exact l8.o
         have p7:=qh hlast;clear hlast
         go_wp2_with (first
         |             (go_at_call 42;(refine(i1.o _ (by exact i5.o) (by exact HT.o.rdB)).mono ?_);rintro e w6 ⟨rfl,J⟩;have a4:=qtr f5 J;have j5:=qh (HT.o.below J);have h9:=qbl i9 J;have i4:=qh J.size;clear J)
         | (refine zab rfl 27 (.tmp 14) (.tmp 65) rfl w6.heap.size (u8s V.1) rr rr 27 o32 (by exact Blk.new' rfl rfl) (by rw[a7.o];exact hd24) (zac _) (by rw[a7.o];rfl) ?_;intro w7 d0 b3;have a0:Below w6.heap.size w6 w7:=b3.below ((Below.refl _ _).alloc lr _) lr sy;have e5:=qtr a4 a0;have j0:=qh (j5.o.below a0);have d3:=qbl h9 a0;have j4:=qh (Nat.le_trans i4.o a0.size);have l1:=zev d3.o d9.o;have l2:=zev d0 a7.o;clear d0 b3 a0)
         | (go_at_call 43;(refine(f8.o _).mono ?_);rintro e w8 ⟨rfl,Y⟩;have h7:=qtr e5 Y;have i3:=qh (j0.o.below Y);have j1:=qbl d3 Y;have f6:=qh (Nat.le_trans j4.o Y.size);clear Y l1 l2)
         | (refine zab rfl 83 (.tmp 16) (.tmp 74) rfl w8.heap.size CS rr rr 83 (u8s (List.replicate 192 0)) (by exact Blk.new' rfl zcSp) (by rw[I.o];exact hd69) c2.o (by rw[I.o];rfl) ?_;intro w9 b2 e6;have a3:Below w8.heap.size w8 w9:=e6.below ((Below.refl _ _).alloc lr _) lr sy;have b1:=qtr h7 a3;have b4:=qh (i3.o.below a3);have d4:=qbl j1 a3;have i8:=qh b2;have l3:=sp_ld b2 I.o;clear b2 e6 a3)
         | (refine zb6 rfl 74 83 (.tmp 80) rfl CS rr Tryz.underlying74 f3.o (by rw[I.o];omega) (by rw[I.o];omega) ?_)
         | (at_builtin;refine zah rfl (.tmp 79) (.tmp 81) 74 rfl (w1.heap.size+1) 83 192 192 Tryz.underlying74 eSpz (.slice e1 j c3) j (M.flatMap Sp.cells) rr (by exact zas b4.o.own10 ((Below.refl _ _).alloc lr _)) (some ⟨w9.heap.size,0,none⟩) 1 1 CS rr (by exact RdS.new w9 _ CS 192 I.o) c2.o om om (by have:=d4.o.lt;simp;omega) ?_;intro f7 f2 q6 r a8 E X;have a1:=b4.o.own10;have U:=HT.o.own10;have d8:=qh ((b1.o.alloc b1.o.size _).grown E (Nat.le_trans b1.o.size sy) (fun k hk=>by have h1:=(a1.lt k hk).1;have h2:=e4.o;omega));rw[e9.o]at r;have g3:=qh ((b4.o.below ((Below.refl _ _).alloc lr _)).app10 r E (by simpa using X));have g8:=qh ((d4.o.alloc _).grown E (fun e=>by have h1:=(a1.lt _ e.symm).1;omega));have d7:=qh ((i8.o.alloc _).grown E (fun e=>by have h1:=(U.lt _ e.symm).2;have h2:=f6.o;omega));have e8:=qh r;have b5:=qh a8;have l4:=sp_ld d7.o I.o;clear r a8 E X a1 U l3)
         | (go_at_call 44;(refine(i6.o _).mono ?_);rintro e r2 ⟨rfl,a6⟩;have g2:=qtr d8 a6;have p0:=qh (g3.o.below a6);have l9:=qbl g8 a6;have n6:=qbl d7 a6;clear a6 l4;obtain⟨a5,q9,c0,g4⟩:=st32 l9.o d9.o o4.o (zac _);have n2:=qh (c0.below g2.o e4.o g2.o.size);have g1:=qh (p0.o.only c0 (Nat.lt_succ_self _));have o0:=qh (c0.blk n6.o (by have h1:=f6.o;have h2:=i9.o.lt;omega));have h0:=qh g4;have l5:=h8.o _ _ o0.o;clear g4 c0;obtain⟨e0,hst,g0,g7⟩:=st32 (show Blk (a5.alloc (.cells #[.int .u8 0,.int .u8 0,.int .u8 0,.int .u8 0,.int .u8 0,.int .u8 0,.int .u8 0,.int .u8 0,.int .u8 0,.int .u8 0,.int .u8 0,.int .u8 0,.int .u8 0,.int .u8 0,.int .u8 0,.int .u8 0,.int .u8 0,.int .u8 0,.int .u8 0,.int .u8 0,.int .u8 0,.int .u8 0,.int .u8 0,.int .u8 0,.int .u8 0,.int .u8 0,.int .u8 0,.int .u8 0,.int .u8 0,.int .u8 0,.int .u8 0,.int .u8 0] 27)) a5.heap.size 27 o32 from Blk.new' rfl rfl) rfl e3.o (zac BL);have b9:Below a5.heap.size a5 e0:=g0.below ((Below.refl _ _).alloc lr _) lr sy;have d5:=qtr n2 b9;have k5:=qh (g1.o.below b9);have g9:=qbl h0 b9;have k6:Hid (Rd e0 (some ⟨a5.heap.size,0,none⟩) 32 (u8s BL)):=by have h5:=g7.rd 0 32 (by have:=e3.o;omega);rwa [List.drop_zero,tk (by have:=e3.o;omega)]at h5
            obtain⟨vs,n5⟩:=k5.o.below ((Below.refl _ e0).alloc lr (.cells #[.slice (some ⟨a5.heap.size,0,none⟩) 32 32] 22));have f1:=qh n5;have q2:=qh (g1.o.fresh h0.o.lt 0)
            clear g7 g0 b9 n5)
         | (at_builtin;refine zah rfl (.tmp 99) (.tmp 101) 57 rfl (w1.heap.size+1) 22 1 24 Tryz.underlying57 eSl (.slice a9 (j+1) c9) (j+1) vs rr (by exact f1.o.2.1) (some ⟨e0.heap.size,0,none⟩) 1 1 [.slice (some ⟨a5.heap.size,0,none⟩) 32 32] rr (by exact RdS.new e0 _ [.slice (some ⟨a5.heap.size,0,none⟩) 32 32] 1 rfl) (by intro v hv;simp at hv;rw[hv];rfl) om om (by have:=g9.o.lt;simp;omega) ?_;intro m8 m6 q3 b6 k3 b7 e7;have k4:=qh ((d5.o.alloc d5.o.size _).grown b7 (Nat.le_trans d5.o.size sy) (fun k hk=>by have h1:=(f1.o.2.1.lt k hk).1;have h2:=e4.o;omega));have n3:=qh ((g9.o.alloc _).grown b7 (fun e=>by have h1:=(f1.o.2.1.lt _ e.symm).1;omega));have l0:Hid (Two (w1.heap.size+1) w1.heap.size 83 q3 (.slice f7 (j+1) f2) (.slice m8 (j+1+1) m6) (j+1) (j+1+1) ((M++[ST]).flatMap Sp.cells) (sc++[BL])):=Two.app11 f1.o b6 b7 (by simpa using e7) lr (k6.o.alloc _) q2.o;clear b6 k3 b7 e7))
         go_roundg (k-(j+1))
         case measure=>have:=p5.o;omega
         case rel=>exact⟨j+1,M++[ST],sc++[BL],NA,f7,m8,f2,m6,by have:=p7.o;omega,rfl,by go_num,rfl,rfl,b5.o,h4,k7,n7,k1,l0,n3,k4⟩
     · have m0:¬(V.2:Int)=0:=om
       have hv:=f0.o;rw[if_neg he]at hv;have k9:Hid (R.1=[]):=by show _=_;rw[←hv]
       have q5:Hid ((R.2:Int)=(V.2:Int)):=by show _=_;rw[←hv]
       clear he hv f0
       go_wp2_with (first
        | (go_at_call 42;(refine(i1.o _ (by exact i5.o) (by exact HT.o.rdB)).mono ?_);rintro e w6 ⟨rfl,J⟩;have a4:=qtr f5 J;clear J)
        | (refine zab rfl 27 (.tmp 14) (.tmp 65) rfl w6.heap.size (u8s V.1) rr rr 27 o32 (by exact Blk.new' rfl rfl) (by rw[a7.o];exact hd24) (zac _) (by rw[a7.o];rfl) ?_;intro w7 d0 b3;have e5:=qh (b3.below (a4.o.alloc a4.o.size _) a4.o.size (Nat.le_trans a4.o.size sy))))
       go_ret2;exact⟨none,0,0,by rw[q5.o];rfl,lr,by rw[k9.o];exact⟨rfl,fun h=>absurd h om⟩,by rw[k9.o];rfl,e5.o⟩
end
section
theorem zfs(p v:Value):Instr.storeAt 63 p v=stAt 63 p v:=rfl
theorem zl5(p v:Value):Instr.storeAt 28 p v=stAt 28 p v:=rfl
theorem zmy(v:Value):Instr.loadAt 28 v=ldAt 28 v:=rfl
attribute [local go_sem ↓] zch zfs zl5 zmy
theorem st20{w:World}{g:Nat}{t:TypeId}{Z X:List Value}(o:Nat)(hb:Blk w g t Z)(hz:o+20≤Z.length)(hx:X.length=20)(h1:∀v∈X,v.oneCell'=true):∃w',(stAt 63 (.pointer (some ⟨g,o,none⟩)) (.agg X.toArray)).run Tryz.prog w=.ok () w'∧Only w w' g∧Blk w' g t (splice Z o X) :=
 ⟨w.setCells g o X,zcr hb 63 o X om h1 (by rw[hx];exact hd76c),Only.of_setCells w g o X,za2 g t X o Z w hb om⟩
theorem st16{w:World}{g:Nat}{t:TypeId}{Z X:List Value}(o:Nat)(hb:Blk w g t Z)(hz:o+16≤Z.length)(hx:X.length=16)(h1:∀v∈X,v.oneCell'=true):∃w',(stAt 28 (.pointer (some ⟨g,o,none⟩)) (.agg X.toArray)).run Tryz.prog w=.ok () w'∧Only w w' g∧Blk w' g t (splice Z o X) :=
 ⟨w.setCells g o X,zcr hb 28 o X om h1 (by rw[hx];exact hd16),Only.of_setCells w g o X,za2 g t X o Z w hb om⟩
theorem zfg{last:Cm}(hc:last.ok){hs:List Ho}(r:∀s∈hs,s.ok)(hd:∀s∈hs,s.bad=false)(i:Nat):(pathC last hs i).ok:=by
 unfold pathC
 cases h:hs[i]? with
 | none=>exact Cm.zero_ok
 | some o =>
  have ho:=mg9 h;obtain⟨g1,g2,_,_⟩:=Ho.bad_no (hd o ho);simp only
  split
  · refine⟨by show o.dl.toNat<_;omega,?_,lp9⟩
    show(hs[i+1]?.map Ho.id).getD 0<_
    cases h2:hs[i+1]? with
    | none=>simp
    | some o2=>simpa using (r o2 (mg9 h2)).1
  · exact⟨by show o.dl.toNat<_;omega,by show 0<_;omega,hc.2.2⟩
theorem zlh{last:Cm}(hc:last.ok){hs:List Ho}(r:∀s∈hs,s.ok)(hd:∀s∈hs,s.bad=false)(k:Nat):(((List.range k).map (pathC last hs)).flatMap Cm.cells).length=k*20:=by
 induction k with
 | zero=>rfl
 | succ k ih=>rw[List.range_succ,List.map_append,List.flatMap_append,la9,ih];simp[Cm.cells_len (zfg hc r hd k)];omega
theorem zpo{last:Cm}(hc:last.ok){hs:List Ho}(r:∀s∈hs,s.ok)(hd:∀s∈hs,s.bad=false){k:Nat}(hk:k<hs.length):splice (pathB last hs k) (k*20) (pathC last hs k).cells=pathB last hs (k+1):=by
 have hl:=zlh hc r hd k;have hz:=Cm.cells_len Cm.zero_ok;have hp:=Cm.cells_len (zfg hc r hd k)
 unfold pathB
 rw[show hs.length-k=(hs.length-(k+1))+1 by omega,List.replicate_succ,List.flatten_cons,List.range_succ,List.map_append,List.flatMap_append]
 unfold splice
 rw[List.take_left' hl,hp,List.drop_append,List.drop_eq_nil_of_le (by rw[hl];omega),List.nil_append,hl,Nat.add_sub_cancel_left,List.drop_left' hz]
 simp
theorem zr9(last:Cm)(hs:List Ho):pathB last hs hs.length=(pathL last hs).flatMap Cm.cells:=by
 simp[pathB,pathL]
theorem zc8{last:Cm}{hs:List Ho}(h:pathE last hs=0):(∀s∈hs,s.bad=false)∧1≤hs.length∧hs.length≤5:=by
 unfold pathE at h
 split at h
 · cases h
 split at h
 · cases h
 rename_i h2
 split at h
 · cases h
 rename_i h3
 refine⟨fun s hs2=>?_,by omega,by omega⟩
 cases hb:s.bad with
 | false=>rfl
 | true=>exact absurd (List.any_eq_true.2 ⟨s,hs2,hb⟩) h2
theorem zyc(last:Cm)(hc:last.ok)(A:Option Addr)(n c:Nat)(hs:List Ho)(w:World)(h:RdS 68 w A n (hs.flatMap Ho.cells))(I:∀s∈hs,s.ok)(hl:hs.length=n)(hn:n≤140737488355328)(he:pathE last hs≠0):
 Calls Tryz.prog 18 #[.agg last.cells.toArray,.slice A n c] w fun e w'=>e=.returned (.tuple #[.slice none 0 0,.int .i64 (pathE last hs:Int)])∧Below w.heap.size w w':=by
 have r:=qh (fun W hW=>zhk last hc A n c hs W hW I hl hn);have V:¬(pathE last hs:Int)=0:=om;have G:=qh (Cm.cells_len hc);obtain⟨C,hC⟩:=ex9 (last.cells);rw[←hC]at r G ⊢;generalize (pathE last hs:Int)=E at *;have M:Hid (Blk (w.alloc (.cells C.toArray 63)) w.heap.size 63 C):=Blk.new _ _ _;have J:Hid (Below w.heap.size w (w.alloc (.cells C.toArray 63))):=(Below.refl _ w).alloc lr _;have HR:=qh (h.bel J.o lr);have l0:=cm_ld M.o G.o;clear h I hl he hC hc
 go_enter Tryz.func18, Tryz.ntmps18
 go_wp2_with (first
  | (go_at_call 40;(refine(r.o _ (by exact HR.o)).mono ?_);rintro e w1 ⟨rfl,D⟩;have U:=qtr J D;clear D))
 go_ret2;exact⟨rfl,U.o⟩
theorem zn1(last:Cm)(hc:last.ok)(A:Option Addr)(n c:Nat)(hs:List Ho)(w:World)(h:RdS 68 w A n (hs.flatMap Ho.cells))(a0:∀s∈hs,s.ok)(hl:hs.length=n)(he:pathE last hs=0):
 Calls Tryz.prog 18 #[.agg last.cells.toArray,.slice A n c] w fun e w'=>∃A',e=.returned (.tuple #[.slice A' n n,.int .i64 0])∧RdS 20 w' A' n ((pathL last hs).flatMap Cm.cells)∧Below w.heap.size w w':=by
 obtain⟨I,h1,h5⟩:=zc8 he
 have e9:Hid (∀W,RdS 68 W A n (hs.flatMap Ho.cells)→Calls Tryz.prog 40 #[.agg last.cells.toArray,.slice A n c] W fun e w'=>e=.returned (.int .i64 0)∧Below W.heap.size W w'):=fun W hW=>by
  have h6:=zhk last hc A n c hs W hW a0 hl om
  rwa [he]at h6
 have g0:=qh (fun k hk=>zpo hc a0 I (k:=k) hk);have b5:=qh (fun i=>zfg hc a0 I i);have d5:=qh (fun k=>zlh hc a0 I k);have i0:=qh I;have a4:=qh a0;have HL:=qh hl;have a5:=qh hc;have h2:=qh (Cm.cells_len hc);obtain⟨C,hC⟩:=ex9 (last.cells);have d6:=qh hC;rw[←hC]at e9 h2 ⊢;have d9:Hid (Blk (w.alloc (.cells C.toArray 63)) w.heap.size 63 C):=Blk.new _ _ _;have d3:Hid (Below w.heap.size w (w.alloc (.cells C.toArray 63))):=(Below.refl _ w).alloc lr _;have HR:=qh (h.bel d3.o lr);have d0:=qh h;have l0:=cm_ld d9.o h2.o;have n5:n≤5:=om;have n1:1≤n:=om;clear h a0 hl he hC hc I h1 h5
 go_enter Tryz.func18, Tryz.ntmps18
 go_wp2_with (first
  | (go_at_call 40;(refine(e9.o _ (by exact HR.o)).mono ?_);rintro e w1 ⟨rfl,b3⟩;have b9:=qtr d3 b3;have b7:=qbl d9 b3;have f6:=qh (HR.o.bel b3 lr);clear b3 l0)
  | (at_make;refine zky rfl (.tmp 17) (.tmp 17) 70 rfl 63 (.agg Cm.zero.cells.toArray) 32 20 Cm.zero.cells Tryz.underlying70 iCm rfl (Cm.cells_len Cm.zero_ok) om .i64 .i64 (n:Int) (n:Int) rr rr n n rfl rfl om om om ?_;intro w2 f9 c5 h8;have h0:=qh (b9.o.trans ((zad c5).mono b9.o.size));have f8:=qh (b7.o.below (zad c5) b7.o.lt);have i1:=qh (f6.o.bel (zad c5) lr);have f7:Hid (Blk w2 w1.heap.size 63 (pathB last hs 0)):=by show Blk _ _ _ _;unfold pathB;rw[HL.o];exact f9
     have h7:=qh b9.o.size;have g5:Hid (w.heap.size<w1.heap.size):=b7.o.lt
     clear f9 c5 h8))
 go_loopg [21] n (fun kk q wr=>∃k:Nat,k≤n∧kk=n-k∧q=.int .i64 k∧Hid (Blk wr w1.heap.size 63 (pathB last hs k))∧Hid (Blk wr w.heap.size 63 C)∧Hid (Below w.heap.size w wr))
 case atStart=>exact⟨0,Nat.zero_le _,rfl,rfl,f7,f8,h0⟩
 case round =>
  have c8:=qh (fun W (hW:Below w.heap.size w W)=>(show RdS 68 W A n (hs.flatMap Ho.cells) from d0.o.bel hW lr));clear f7 f8 h0 i1 f6 HR b7 b9 d9 d3 e9;obtain⟨k,i7,g9,rfl,U,a1,HE⟩:=hrel;have f5:=qh g9;clear g9
  by_cases hlt:k<n
  · have h3:(k:Int)<(n:Int):=om
    obtain⟨o,ho⟩:∃o,hs[k]? = some o:=⟨_,ge9 (by rw[HL.o];omega)⟩;have a2:=a4.o o (mg9 ho);obtain⟨g1,g2,g3,g4⟩:=Ho.bad_no (i0.o o (mg9 ho));have i9:IntKind.u32.wrap o.dl=o.dl:=by rw[IntKind.wrap_u32];omega
    have i8:IntKind.u8.wrap o.fl=o.fl:=by rw[IntKind.wrap_u8];omega
    obtain⟨w3,hst,c4,d7⟩:=st20 0 (show Blk (wr.alloc (.cells #[.int .u8 0,.int .u8 0,.int .u32 0,.int .u64 0,.int .u8 0,.int .u8 0,.int .u8 0,.int .u8 0,.int .u8 0,.int .u8 0,.int .u8 0,.int .u8 0,.int .u8 0,.int .u8 0,.int .u8 0,.int .u8 0,.int .u8 0,.int .u8 0,.int .u8 0,.int .u8 0] 63)) wr.heap.size 63 Cm.zero.cells from Blk.new' rfl rfl) (by rw[Cm.cells_len Cm.zero_ok];omega) (show cm1.cells.length=20 from rfl) (Cm.cells_one cm1);rw[zap _ _ (by rw[Cm.cells_len Cm.zero_ok];rfl)]at d7;have b6:=qh (c4.below (HE.o.alloc HE.o.size _) HE.o.size (Nat.le_trans HE.o.size sy));have G:=qal c4 a1 (by have:=a1.o.lt;omega);have Y:=qal c4 U (by have:=U.o.lt;omega);have E:=qh d7;clear c4 d7
    by_cases hl1:k+1<n
    · have i3:(k:Int)+1<(n:Int):=om
      obtain⟨o2,d8⟩:∃o,hs[k+1]? = some o:=⟨_,ge9 (by rw[HL.o];omega)⟩;have HG:Hid (wr.heap.size≠w1.heap.size∧wr.heap.size≠w.heap.size):=⟨by have:=U.o.lt;omega,by have:=a1.o.lt;omega⟩;have a8:pathC last hs k=⟨1,UInt8.ofNat o.fl.toNat,o.dl.toNat,o2.id,List.replicate 16 0⟩:=by unfold pathC;rw[ho,d8];simp only[HL.o,if_pos hl1];rfl
      obtain⟨b,a3,rfl,i2,_⟩:=zbl d0.o a4.o ho om;obtain⟨b1,f1,r,_,V⟩:=zbl (c8.o w3 b6.o) a4.o ho om
      injection r with r
      injection r with e3 e4
      subst e3;subst e4;obtain⟨b',i5,f0,_,c7⟩:=zbl (c8.o w3 b6.o) a4.o d8 om
      injection f0 with f0
      injection f0 with e1 e2
      subst e1;subst e2;have g6:b≠wr.heap.size:=by have:=HE.o.size;omega
      have d1:w3.cell? ⟨b,a3+(k+1)*68+1,none⟩=some (.int .u64 (o2.id:Int)):=c7 1 _ (Ho.at_id o2);have i4:w3.cell? ⟨b,a3+k*68+66,none⟩=some (.int .i64 o.dl):=V 66 _ (Ho.at_dl a2);have h9:w3.cell? ⟨b,a3+k*68+67,none⟩=some (.int .i64 o.fl):=V 67 _ (Ho.at_fl a2);have c1:w3.cell? ⟨wr.heap.size,1,none⟩=some (.int .u8 0):=by rw[E.o.cell];rfl
      have c2:w3.cell? ⟨wr.heap.size,2,none⟩=some (.int .u32 0):=by rw[E.o.cell];rfl
      have c3:w3.cell? ⟨wr.heap.size,3,none⟩=some (.int .u64 0):=by rw[E.o.cell];rfl
      have hf:=fun i=>E.o.frozen i
      have a9:Hid (Blk (((w3.setCell ⟨wr.heap.size,3,none⟩ (.int .u64 (o2.id:Int))).setCell ⟨wr.heap.size,2,none⟩ (.int .u32 o.dl)).setCell ⟨wr.heap.size,1,none⟩ (.int .u8 o.fl)) wr.heap.size 63 (pathC last hs k).cells):=by
       have h5:=((E.o.set_ 3 (.int .u64 (o2.id:Int))).set_ 2 (.int .u32 o.dl)).set_ 1 (.int .u8 o.fl)
       have e5:(((cm1.cells.set 3 (.int .u64 (o2.id:Int))).set 2 (.int .u32 o.dl)).set 1 (.int .u8 o.fl))=(pathC last hs k).cells:=by
        rw[a8];simp only[Cm.cells,cm1,List.set_cons_succ,List.set_cons_zero];have q1:o.dl=(o.dl.toNat:Int):=om;have q2:o.fl=((UInt8.ofNat o.fl.toNat).toNat:Int):=by simp;omega
        rw[←q1,←q2]
       rwa [e5]at h5
      have l6:=cm_ld a9.o (Cm.cells_len (b5.o k));have a7:Hid (Blk (((w3.setCell ⟨wr.heap.size,3,none⟩ (.int .u64 (o2.id:Int))).setCell ⟨wr.heap.size,2,none⟩ (.int .u32 o.dl)).setCell ⟨wr.heap.size,1,none⟩ (.int .u8 o.fl)) w1.heap.size 63 (pathB last hs k)):=((Y.o.far (p:=⟨wr.heap.size,3,none⟩) HG.o.1.symm _).far (p:=⟨wr.heap.size,2,none⟩) HG.o.1.symm _).far (p:=⟨wr.heap.size,1,none⟩) HG.o.1.symm _;have b2:Hid (Blk (((w3.setCell ⟨wr.heap.size,3,none⟩ (.int .u64 (o2.id:Int))).setCell ⟨wr.heap.size,2,none⟩ (.int .u32 o.dl)).setCell ⟨wr.heap.size,1,none⟩ (.int .u8 o.fl)) w.heap.size 63 C):=((G.o.far (p:=⟨wr.heap.size,3,none⟩) HG.o.2.symm _).far (p:=⟨wr.heap.size,2,none⟩) HG.o.2.symm _).far (p:=⟨wr.heap.size,1,none⟩) HG.o.2.symm _;have M:Hid (Below w.heap.size w (((w3.setCell ⟨wr.heap.size,3,none⟩ (.int .u64 (o2.id:Int))).setCell ⟨wr.heap.size,2,none⟩ (.int .u32 o.dl)).setCell ⟨wr.heap.size,1,none⟩ (.int .u8 o.fl))):=((b6.o.setCell (p:=⟨wr.heap.size,3,none⟩) HE.o.size _).setCell (p:=⟨wr.heap.size,2,none⟩) HE.o.size _).setCell (p:=⟨wr.heap.size,1,none⟩) HE.o.size _;obtain⟨w7,f3,J,X⟩:=st20 (k*20) a7.o (by rw[pathB,la9,d5.o k,zeg,Cm.cells_len Cm.zero_ok,HL.o];omega) (Cm.cells_len (b5.o k)) (Cm.cells_one _);rw[g0.o k (by rw[HL.o];exact hlt)]at X;have e6:=qh X;have c9:=qh (J.blk b2.o (by have:=g5.o;omega));have e7:=qh (J.below M.o h7.o M.o.size);generalize (pathC last hs k).cells=PC at *;generalize o.dl=D at *;generalize o.fl=F at *;generalize o2.id=I2 at *;clear X J b2 M a7 a9 a8 ho d8 a2 V c7 E G Y a1 U
      go_wp2_with (first
       | (refine zai rfl 63 [(0,.const (.int .u8 1))] rfl _ rr (.agg cm1.cells.toArray) (zto _) ?_))
      go_roundg (n-(k+1))
      case measure=>have:=f5.o;omega
      case rel=>exact⟨k+1,by omega,rfl,by go_num,e6,c9,e7⟩
    · have i3:¬(k:Int)+1<(n:Int):=om
      have HG:Hid (wr.heap.size≠w1.heap.size∧wr.heap.size≠w.heap.size):=⟨by have:=U.o.lt;omega,by have:=a1.o.lt;omega⟩;have a8:pathC last hs k=⟨last.k,UInt8.ofNat o.fl.toNat,o.dl.toNat,0,last.m⟩:=by unfold pathC;rw[ho];simp only[HL.o,if_neg hl1]
      obtain⟨b,a3,rfl,i2,_⟩:=zbl d0.o a4.o ho om;have g6:b≠wr.heap.size:=by have:=HE.o.size;omega
      have q0:w3.cell? ⟨w.heap.size,0,none⟩=some (.int .u8 last.k.toNat):=by rw[G.o.cell,d6.o];rfl
      have c0:w3.cell? ⟨wr.heap.size,0,none⟩=some (.int .u8 1):=by rw[E.o.cell];rfl
      have j1:=fun i=>E.o.frozen i
      have h4:=E.o.set_ 0 (.int .u8 last.k.toNat);have d4:Blk (w3.setCell ⟨wr.heap.size,0,none⟩ (.int .u8 last.k.toNat)) w.heap.size 63 C:=G.o.far (p:=⟨wr.heap.size,0,none⟩) HG.o.2.symm _;have f2:Blk (w3.setCell ⟨wr.heap.size,0,none⟩ (.int .u8 last.k.toNat)) w1.heap.size 63 (pathB last hs k):=Y.o.far (p:=⟨wr.heap.size,0,none⟩) HG.o.1.symm _;have e0:Below w.heap.size w (w3.setCell ⟨wr.heap.size,0,none⟩ (.int .u8 last.k.toNat)):=b6.o.setCell (p:=⟨wr.heap.size,0,none⟩) HE.o.size _;have j0:(ldAt 28 (.pointer (some ⟨w.heap.size,4,none⟩))).run Tryz.prog (w3.setCell ⟨wr.heap.size,0,none⟩ (.int .u8 last.k.toNat))=.ok (.agg (u8s last.m).toArray) (w3.setCell ⟨wr.heap.size,0,none⟩ (.int .u8 last.k.toNat)):=zal d4 _ 4 (u8s last.m) (by rw[zaa,a5.o.2.2,d6.o,Cm.cells_mark,tk (by rw[zaa,a5.o.2.2];exact lr)]) _ Tryz.underlying28 rfl (by rw[zaa,a5.o.2.2];exact hd16);obtain⟨w5,i6,b4,a6⟩:=st16 4 h4 (by rw[List.length_set];exact lr) (show(u8s last.m).length=16 by rw[zaa,a5.o.2.2]) (zac _);have e8:=qh (b4.below e0 HE.o.size e0.size);have g8:=qh (b4.blk f2 HG.o.1.symm);have g7:=qh (b4.blk d4 HG.o.2.symm);obtain⟨b1,f1,r,_,V⟩:=zbl (c8.o w5 e8.o) a4.o ho om
      injection r with r
      injection r with e3 e4
      subst e3;subst e4;have i4:w5.cell? ⟨b,a3+k*68+66,none⟩=some (.int .i64 o.dl):=V 66 _ (Ho.at_dl a2);have h9:w5.cell? ⟨b,a3+k*68+67,none⟩=some (.int .i64 o.fl):=V 67 _ (Ho.at_fl a2)
      have f4:splice (cm1.cells.set 0 (.int .u8 last.k.toNat)) 4 (u8s last.m)=.int .u8 last.k.toNat :: .int .u8 0 :: .int .u32 0 :: .int .u64 0 :: u8s last.m:=by
       unfold splice
       rw[zaa,a5.o.2.2]
       simp[cm1,Cm.cells,u8s]
      rw[f4]at a6;have c1:w5.cell? ⟨wr.heap.size,1,none⟩=some (.int .u8 0):=by rw[a6.cell];rfl
      have c2:w5.cell? ⟨wr.heap.size,2,none⟩=some (.int .u32 0):=by rw[a6.cell];rfl
      have hf:=fun i=>a6.frozen i
      have a9:Hid (Blk ((w5.setCell ⟨wr.heap.size,2,none⟩ (.int .u32 o.dl)).setCell ⟨wr.heap.size,1,none⟩ (.int .u8 o.fl)) wr.heap.size 63 (pathC last hs k).cells):=by
       have h5:=(a6.set_ 2 (.int .u32 o.dl)).set_ 1 (.int .u8 o.fl)
       have e5:(((Value.int .u8 last.k.toNat :: .int .u8 0 :: .int .u32 0 :: .int .u64 0 :: u8s last.m).set 2 (.int .u32 o.dl)).set 1 (.int .u8 o.fl))=(pathC last hs k).cells:=by
        rw[a8];simp only[Cm.cells,List.set_cons_succ,List.set_cons_zero];have q1:o.dl=(o.dl.toNat:Int):=om;have q2:o.fl=((UInt8.ofNat o.fl.toNat).toNat:Int):=by simp;omega
        rw[←q1,←q2]
        rfl
       rwa [e5]at h5
      have l6:=cm_ld a9.o (Cm.cells_len (b5.o k));have a7:Hid (Blk ((w5.setCell ⟨wr.heap.size,2,none⟩ (.int .u32 o.dl)).setCell ⟨wr.heap.size,1,none⟩ (.int .u8 o.fl)) w1.heap.size 63 (pathB last hs k)):=(g8.o.far (p:=⟨wr.heap.size,2,none⟩) HG.o.1.symm _).far (p:=⟨wr.heap.size,1,none⟩) HG.o.1.symm _;have b2:Hid (Blk ((w5.setCell ⟨wr.heap.size,2,none⟩ (.int .u32 o.dl)).setCell ⟨wr.heap.size,1,none⟩ (.int .u8 o.fl)) w.heap.size 63 C):=(g7.o.far (p:=⟨wr.heap.size,2,none⟩) HG.o.2.symm _).far (p:=⟨wr.heap.size,1,none⟩) HG.o.2.symm _;have M:Hid (Below w.heap.size w ((w5.setCell ⟨wr.heap.size,2,none⟩ (.int .u32 o.dl)).setCell ⟨wr.heap.size,1,none⟩ (.int .u8 o.fl))):=(e8.o.setCell (p:=⟨wr.heap.size,2,none⟩) HE.o.size _).setCell (p:=⟨wr.heap.size,1,none⟩) HE.o.size _;obtain⟨w7,f3,J,X⟩:=st20 (k*20) a7.o (by rw[pathB,la9,d5.o k,zeg,Cm.cells_len Cm.zero_ok,HL.o];omega) (Cm.cells_len (b5.o k)) (Cm.cells_one _);rw[g0.o k (by rw[HL.o];exact hlt)]at X;have e6:=qh X;have c9:=qh (J.blk b2.o (by have:=g5.o;omega));have e7:=qh (J.below M.o h7.o M.o.size);generalize (pathC last hs k).cells=PC at *;generalize o.dl=D at *;generalize o.fl=F at *;generalize u8s last.m=LM at *;generalize last.k.toNat=LK at *;clear X J b2 M a7 a9 a8 ho a2 V E G Y a1 U h4 d4 f2 e0 b4 a6 f4 g8 g7 e8 d6 a5
      go_wp2_with (first
       | (refine zai rfl 63 [(0,.const (.int .u8 1))] rfl _ rr (.agg cm1.cells.toArray) (zto _) ?_))
      go_roundg (n-(k+1))
      case measure=>have:=f5.o;omega
      case rel=>exact⟨k+1,by omega,rfl,by go_num,e6,c9,e7⟩
  · obtain rfl:k=n:=om
    have h3:¬(k:Int)<(k:Int):=om;have hb:=U.o;rw[←HL.o,zr9]at hb
    have c6:((pathL last hs).flatMap Cm.cells).length=k*20:=by
     have:=d5.o hs.length;rw[←HL.o];exact this
    have HF:Hid (RdS 20 wr (some ⟨w1.heap.size,0,none⟩) k ((pathL last hs).flatMap Cm.cells)):=⟨c6,fun _=>⟨w1.heap.size,0,rfl,hb.lt,fun j u hu=>by rw[Nat.zero_add,hb.cell];exact hu⟩⟩;clear hb c6;go_wp2;go_ret2;exact⟨_,rfl,HF.o,HE.o⟩
end
theorem zy6(l:List UInt8):(l.flatMap fun x=>[u8 x])=u8s l:=by
 induction l with
 | nil=>rfl
 | cons a l ih=>rw[List.flatMap_cons,ih];rfl
theorem zhf(B:Option Nat)(N:Nat):Reads Tryz.prog B N 22 (fun s:Sl UInt8=>[s.val]) (fun W s=>Rd W s.A s.n (u8s s.l)∧s.n≤s.c∧s.c≤140737488351232) :=
 Reads.mono ((zhd (N:=N) 1 1 Tryz.underlying22 kr kr om (zup Tryz.underlying5)).imp
   fun W s h=>⟨s,rfl,by
    refine⟨?_,h.cap,?_⟩
    · have:=h.rd
      rw[zy6]at this;exact this.to1
    · have h2:s.c*1≤reachBytes:=h.reach
      unfold reachBytes at h2
      omega⟩) om
def toU8h:Value→UInt8
 | .int .u8 k=>UInt8.ofNat k.toNat
 | _=>0
theorem ziv{P:Program}{B:Option Nat}{N n:Nat}{t e:TypeId}(ht:P.underlying t=some (.array n e))(hu:P.underlying e=some (.int .u8))(hc:P.cellsOf e=1)(E:P.cellsOf t=n):Reads P B N t (fun l:List UInt8=>u8s l) (fun _ l=>l.length=n) :=
 ⟨fun {H enc W fuel cs x} hf hx hw hb=>by
  obtain⟨xs,m,rfl,rfl,r,G,D⟩:=DataW.trod_array ht hx;refine⟨cs.map toU8h,?_,by rw[List.length_map,r,E]⟩
  have A:∀v∈cs,u8 (toU8h v)=v:=by
   intro v hv;obtain⟨i,hi,rfl⟩:=List.getElem_of_mem hv;have h1:=D i om;rw[hc,Nat.mul_one,ge9 om]at h1;obtain⟨k,e1,_,hk⟩:=DataW.trod_int hu h1;rw[List.drop_eq_getElem_cons hi,List.take_succ_cons,List.take_zero]at e1
   injection e1 with e1 _
   rw[e1];exact congrArg (fun z=>Value.int .u8 z) (znj hk).symm
  rw[u8s,List.map_map];have h2:cs.map (u8 ∘ toU8h)=cs.map id:=List.map_congr_left (fun v hv=>A v hv)
  rw[h2,List.map_id]⟩
theorem zrn{P:Program}{B:Option Nat}{N:Nat}{t:TypeId}(ht:P.underlying t=some (.int .u64)):Reads P B N t (fun x:Nat=>[.int .u64 (x:Int)]) (fun _ x=>x<18446744073709551616) :=
 (zhe ht).imp fun _ n hn=>by
  have h2:IntKind.u64.min≤n∧n≤IntKind.u64.max:=by simpa[Lit.wf] using hn
  have h3:(0:Int)≤n∧n≤18446744073709551615:=h2;exact⟨n.toNat,by rw[Int.toNat_of_nonneg h3.1],by omega⟩
theorem ziu{P:Program}{B:Option Nat}{N:Nat}{t:TypeId}(ht:P.underlying t=some (.int .i64)):Reads P B N t (fun n:Int=>[.int .i64 n]) (fun _ n=>(Lit.int .i64 n).wf=true):=zhe ht
theorem zpf(B:Option Nat)(N:Nat):Reads Tryz.prog B N 65 (fun x:ByteArray × Nat × List UInt8 × List UInt8=>.string x.1 :: .int .u64 (x.2.1:Int) :: (u8s x.2.2.1++u8s x.2.2.2)) (fun _ x=>x.2.1<18446744073709551616∧x.2.2.1.length=32∧x.2.2.2.length=32) :=
 Reads.mono ((zf4 (N:=N) Tryz.underlying65 kr
   (zcb (sz:=1) rfl kr (zro Tryz.underlying9) (zcb (sz:=1) rfl kr (zrn Tryz.underlying32) (zcb (sz:=32) rfl kr (ziv Tryz.underlying27 Tryz.underlying5 kr kr) (zcb (sz:=32) rfl kr (ziv Tryz.underlying27 Tryz.underlying5 kr kr) ziw))))).imp
   fun W ⟨a,b,c,d,_⟩ ⟨_,h2,h3,h4,_⟩=>⟨(a,b,c,d),by simp,h2,h3,h4⟩) om
theorem zuq(B:Option Nat)(N:Nat):Reads Tryz.prog B N 85 Ho.cells (fun _ h=>h.ok) :=
 Reads.mono ((zf4 (N:=N) Tryz.underlying85 kr
   (zcb (sz:=66) rfl kr (zpf B N) (zcb (sz:=1) rfl kr (ziu Tryz.underlying3) (zcb (sz:=1) rfl kr (ziu Tryz.underlying3) ziw)))).imp
   fun W ⟨⟨a,b,c,d⟩,e,f,_⟩ ⟨⟨h1,h2,h3⟩,h4,h5,_⟩=>⟨⟨a,b,c,d,e,f⟩,by simp[Ho.cells,Ho.node],h1,h2,h3,h4,h5⟩) om
theorem zrp(B:Option Nat)(N:Nat):Reads Tryz.prog B N 23 (fun s:Sl Ho=>[s.val]) (SlIn B 68 104 Ho.cells (fun _ h=>h.ok)) :=
 Reads.mono (zhd (N:=N) 68 104 Tryz.underlying23 kr kr om (zuq B N)) om
