/- Part of the proof. -/
import Derived.Test.YtpgpaenloaphaaaGreatSmx50
set_option maxRecDepth 100000
set_option maxHeartbeats 0
namespace Go.Proofs.YtpgpaenloaphaaaGreat
open Go.RowKit
section
theorem znj(v:Value):Instr.loadAt 62 v=ldAt 62 v:=rfl
theorem zmp(p v:Value):Instr.storeAt 62 p v=stAt 62 p v:=rfl
attribute [local go_sem ↓] zio zh3 zhg zgo zcg zfj znj zmp zfp zb0
def soC(mark own:List UInt8)(A:Option Addr)(m c:Nat):List Value:=u8s mark++(u8s own++[.slice A m c])
def zSo:List Value:=soC (List.replicate 16 0) (List.replicate 32 0) none 0 0
theorem hdSo:(Tryz.prog.info? 62).map (·.size)=some 49:=by kernel_rfl
theorem zd0{mark own:List UInt8}(h1:mark.length=16)(h2:own.length=32)(A:Option Addr)(m c:Nat):(soC mark own A m c).length=49:=by simp[soC,zaa,h1,h2]
theorem zdz(mark own:List UInt8)(A:Option Addr)(m c:Nat):∀v∈soC mark own A m c,v.oneCell'=true:=by
 intro v hv;simp only[soC,List.mem_append,List.mem_singleton]at hv
 rcases hv with hv|hv|rfl
 · exact zac _ v hv
 · exact zac _ v hv
 · rfl
theorem zc7:zSo.length=49:=zd0 sy sy _ _ _
theorem bldSo(w:World):(Instr.build 62 #[]).run Tryz.prog w=.ok (.agg zSo.toArray) w:=by kernel_rfl
def cm4:List Value:=(⟨4,0,0,0,List.replicate 16 0⟩:Cm).cells
theorem zmf(w:World):(Instr.build 47 #[(0,.int .u8 4)]).run Tryz.prog w=.ok (.agg cm4.toArray) w:=by kernel_rfl
theorem zj1(m:List UInt8)(h:m.length=16):splice cm4 4 ((u8s m).take 16)=(⟨4,0,0,0,m⟩:Cm).cells:=by
 rw[tk (by rw[zaa,h];exact lr)]
 simp[cm4,Cm.cells,splice,zaa,h]
structure Mk5(w0 w:World)(sc own:List UInt8)(cs:List Value):Prop where
 blk:Blk w w0.heap.size 59 z37
 sto:Blk w (w0.heap.size+1) 62 zSo
 sca:Blk w (w0.heap.size+2) 23 (u8s sc)
 own:Blk w (w0.heap.size+3) 23 (u8s own)
 cmd:Blk w (w0.heap.size+4) 47 cs
 bel:Below w0.heap.size w0 w
theorem Mk5.below{w0 w w':World}{sc own:List UInt8}{cs:List Value}(h:Mk5 w0 w sc own cs)(hb:Below w.heap.size w w'):Mk5 w0 w' sc own cs :=
 ⟨h.blk.below hb h.blk.lt,h.sto.below hb h.sto.lt,h.sca.below hb h.sca.lt,h.own.below hb h.own.lt,h.cmd.below hb h.cmd.lt,h.bel.trans (hb.mono h.bel.size)⟩
theorem Mk5.alloc{w0 w:World}{sc own:List UInt8}{cs:List Value}(h:Mk5 w0 w sc own cs)(o:Obj):Mk5 w0 (w.alloc o) sc own cs:=h.below ((Below.refl _ _).alloc lr o)
theorem Mk5.drew{w0 w:World}{sc own:List UInt8}{cs:List Value}(h:Mk5 w0 w sc own cs):Mk5 w0 w.drew sc own cs:=h.below (Below.refl _ _).drew
theorem Mk5.first{w w2:World}(ho:Only (((((w.alloc (.cells Tryz.zeroCells59 59)).alloc (.cells zSo.toArray 62)).alloc (.cells (u8s (List.replicate 32 0)).toArray 23)).alloc (.cells (u8s (List.replicate 32 0)).toArray 23)).alloc (.cells zcmc.toArray 47)) w2 (w.heap.size+1+1+1+1))
 (hb:Blk w2 (w.heap.size+1+1+1+1) 47 cm4):Mk5 w w2 (List.replicate 32 0) (List.replicate 32 0) cm4 :=
 ⟨ho.blk (((((Blk.new' rfl zc37).alloc _).alloc _).alloc _).alloc _) om,ho.blk ((((Blk.new' sy rfl).alloc _).alloc _).alloc _) om,ho.blk (((Blk.new' sy rfl).alloc _).alloc _) om,ho.blk ((Blk.new' sy rfl).alloc _) om,hb,
  ho.below ((((((Below.refl _ w).alloc lr _).alloc sy _).alloc (by simp;omega) _).alloc (by simp;omega) _).alloc (by simp;omega) _) om (by simp;omega)⟩
theorem Mk5.sca'{w0 w w':World}{sc own sc':List UInt8}{cs:List Value}(h:Mk5 w0 w sc own cs)(ho:Only w w' (w0.heap.size+2))(hb:Blk w' (w0.heap.size+2) 23 (u8s sc')):Mk5 w0 w' sc' own cs :=
 ⟨ho.blk h.blk om,ho.blk h.sto om,hb,ho.blk h.own om,ho.blk h.cmd om,ho.below h.bel om h.bel.size⟩
theorem Mk5.own'{w0 w w':World}{sc own own':List UInt8}{cs:List Value}(h:Mk5 w0 w sc own cs)(ho:Only w w' (w0.heap.size+3))(hb:Blk w' (w0.heap.size+3) 23 (u8s own')):Mk5 w0 w' sc own' cs :=
 ⟨ho.blk h.blk om,ho.blk h.sto om,ho.blk h.sca om,hb,ho.blk h.cmd om,ho.below h.bel om h.bel.size⟩
theorem Mk5.cmd'{w0 w w':World}{sc own:List UInt8}{cs cs':List Value}(h:Mk5 w0 w sc own cs)(ho:Only w w' (w0.heap.size+4))(hb:Blk w' (w0.heap.size+4) 47 cs'):Mk5 w0 w' sc own cs' :=
 ⟨ho.blk h.blk om,ho.blk h.sto om,ho.blk h.sca om,ho.blk h.own om,hb,ho.below h.bel om h.bel.size⟩
theorem Rd.drop'{w:World}{b off n:Nat}{l:List UInt8}(h:Rd w (some ⟨b,off,none⟩) n (u8s l))(k m:Nat)(hm:k+m=n):Rd w (some ⟨b,off+k,none⟩) m (u8s (l.drop k)):=by
 have h5:=h.cut (A':=some ⟨b,off+k,none⟩) (m:=n) (k:=k) lr om (fun _ b' off' e=>by injection e with e;injection e with e1 e2;subst e1;subst e2;rfl);have hl:=h.len;rw[show n-k=m by omega,tk (by rw[zaa,hl];exact lr),zbd]at h5;exact h5
theorem zlm{P:Program}{w:World}{fn:Func}{p p2 u:Tmp}{ty ty2:TypeId}(h:fn.results=#[.cell p ty,.cell p2 ty2,.tmp u])(tmps:Array Value)(g g2:Nat)(t t2:TypeId)(cs cs2:List Value)(hp:tmps.getD p undef=.pointer (some ⟨g,0,none⟩))(hp2:tmps.getD p2 undef=.pointer (some ⟨g2,0,none⟩))
 (hB:Blk w g t cs) (hB2:Blk w g2 t2 cs2) (d d2:TypeDesc) (hu:P.underlying ty=some d) (hd:d.isRow=true) (hi:(P.info? ty).map (·.size)=some cs.length) (hu2:P.underlying ty2=some d2) (hd2:d2.isRow=true) (hi2:(P.info? ty2).map (·.size)=some cs2.length):
 (results fn tmps).run P w=.ok (.tuple #[.agg cs.toArray,.agg cs2.toArray,tmps.getD u undef]) w:=by
 have hp':tmps[p]?.getD undef=.pointer (some ⟨g,0,none⟩):=by rw[←hp];simp
 have hp2':tmps[p2]?.getD undef=.pointer (some ⟨g2,0,none⟩):=by rw[←hp2];simp
 simp[results,h,hp',hp2',asAddr,run_loadVar_mid w g 0 ty cs d hB.range hu hd hi,run_loadVar_mid w g2 0 ty2 cs2 d2 hB2.range hu2 hd2 hi2]
theorem zs3(A H:Option Addr)(n ca m c:Nat)(xs:List UInt8)(hs:List Ho)(w:World)(hx:Rd w A n (u8s xs))(hca:n≤ca)(hh:RdS 68 w H m (hs.flatMap Ho.cells))(hok:∀s∈hs,s.ok)(hl:hs.length=m)(hm:m≤1400000000000)(he:sm3 xs hs≠0):
 Calls Tryz.prog 24 #[.slice A n ca,.slice H m c] w fun e w'=>e=.returned (.tuple #[.agg z37.toArray,.agg zSo.toArray,.int .i64 (sm3 xs hs:Int)])∧Below w.heap.size w w':=by
 have HR:=qh hx;have hxl:xs.length=n:=hx.len;have HXL:=qh hxl
 have HPA:Hid (∀W,Below w.heap.size w W→Calls Tryz.prog 53 #[.agg (smLast xs).cells.toArray,.slice H m c] W fun e w'=>∃A' n',e=.returned (.tuple #[.slice A' n' n',.int .i64 (pathE (smLast xs) hs:Int)])∧Below W.heap.size W w'):=fun W hW=>by
  refine(ztt (smLast xs) (zda xs) H m c hs W (hh.bel hW lr) hok hl om).mono ?_;rintro e w' ⟨A',n',rfl,_,hB⟩;exact⟨A',n',rfl,hB⟩
 have HLE:Hid (∀W A3,Rd W A3 3 (i64s [(szE xs:Int),(idE hs:Int),(pathE (smLast xs) hs:Int)])→Calls Tryz.prog 41 #[.slice A3 3 3] W fun e w'=>e=.returned (.int .i64 (sm3 xs hs:Int))∧W=w'):=fun W A3 h3=>by
  have h5:=zky A3 3 3 _ W h3 om
  rwa [zkz]at h5
 have HCL:=qh (Cm.cells_len (zda xs));have HI37:Hid ((Tryz.prog.info? 59).map (·.size)=some z37.length):=by show _=_;rw[zc8];exact hd37
 have HISO:Hid ((Tryz.prog.info? 62).map (·.size)=some zSo.length):=by show _=_;rw[zc7];exact hdSo
 have HICM:Hid ((Tryz.prog.info? 47).map (·.size)=some cm4.length):=hd76c;generalize sm3 xs hs=LE at *
 go_enter Tryz.func24, Tryz.ntmps24
 go_upto_region 4 with (first
  | (refine zai rfl 47 [(0,.const (.int .u8 4))] rfl _ rr (.agg cm4.toArray) (zmf _) ?_)
  | (refine zab rfl 47 (.tmp 9) (.tmp 21) rfl (w.heap.size+1+1+1+1) cm4 rr rr 47 zcmc (Blk.new' sy rfl) HICM.out (by decide) rfl ?_;intro w2 hb2 ho2;have HM:=qh (Mk5.first ho2 hb2);clear hb2 ho2))
 go_cut [24] (fun v wx=>v=.bool ((n:Int) == 80)∧w2=wx)
 case first =>
  go_wp2
  go_meet
  exact⟨rfl,rfl⟩
 case rest =>
 obtain⟨rfl,rfl⟩:=hcut
 go_step
 go_cut [10] (fun v wx=>v=.int .i64 (szE xs:Int)∧Hid (Mk5 w wx (smSc xs) (smOwn xs) (smLast xs).cells))
 case first =>
  by_cases hn:n=80
  · subst hn
    obtain⟨b,off,rfl,hb,_⟩:=hx.2 om;have n32:¬ca=32:=om;have n64:¬ca=64:=om;have hl80:=HXL.out
    have HS:Hid (splice (u8s (List.replicate 32 0)) 0 ((u8s xs).take 32)=u8s (smSc xs)):=by
     show _=_
     rw[smSc,if_pos hl80,zap _ _ (by rw[List.length_take,zaa,zaa,hl80];rfl),zaz]
    have HO:Hid (splice (u8s (List.replicate 32 0)) 0 ((u8s (xs.drop 32)).take 32)=u8s (smOwn xs)):=by
     show _=_
     rw[smOwn,if_pos hl80,zap _ _ (by rw[List.length_take,zaa,List.length_drop,zaa,hl80];rfl),zaz]
    have HC:Hid (splice cm4 4 ((u8s (xs.drop 64)).take 16)=(smLast xs).cells):=by
     show _=_
     rw[zj1 _ (by rw[List.length_drop,hl80]),smLast,if_pos hl80]
    have HR2:Hid (Rd w2 (some ⟨b,off,none⟩) 80 (u8s xs)):=HR.out.below HM.out.bel;have e80:(((80:Nat):Int) == 80)=true:=rfl;have hsz:szE xs=0:=by rw[szE,if_pos hl80]
    have HSZ:=qh hsz;clear hl80 hsz hxl hb
    go_upto_region 7 with (refine za7 rfl (.tmp 25) (.tmp 26) 22 rfl 5 Tryz.underlying22 zbz (w.heap.size+1+1) 0 32 32 rr (some ⟨b,off,none⟩) 80 ca rr 23 _ (by exact HM.out.sca) (u8s xs) (by exact HR2.out) (zac _) (by rw[zaa,lp9];decide) ?_;intro w3 hb3 ho3;rw[HS.out]at hb3;have HM3:=qh (HM.out.sca' ho3 hb3);have HR3:Hid (Rd w3.drew (some ⟨b,off+32,none⟩) 48 (u8s (xs.drop 32))):=(HR.out.below HM3.out.bel).drop' 32 48 rfl;clear hb3 ho3)
    go_region_held3 (fun _=>True) (trivial) ((refine zbx rfl (.tmp 28) (.tmp 30) 22 rfl 5 Tryz.underlying22 zcn (w.heap.size+1+1+1) 0 32 32 rr (some ⟨b,off+32,none⟩) 48 (ca-32) rr 23 _ (by exact HM3.out.drew.own) (u8s (xs.drop 32)) HR3.out (zac _) (by rw[zaa,lp9];decide) ?_;intro w4 hb4 ho4))
    rw[HO.out]at hb4;have HM4:=qh (HM3.out.drew.own' ho4 hb4);have HR4:Hid (Rd w4.drew (some ⟨b,off+64,none⟩) 16 (u8s (xs.drop 64))):=(HR.out.below HM4.out.bel).drop' 64 16 rfl;clear hb4 ho4;go_wp2
    go_region_held3 (fun _=>True) (trivial) ((refine zbx rfl (.tmp 33) (.tmp 35) 22 rfl 5 Tryz.underlying22 zcn (w.heap.size+1+1+1+1) 4 16 16 rr (some ⟨b,off+64,none⟩) 16 (ca-64) rr 47 _ (by exact HM4.out.drew.cmd) (u8s (xs.drop 64)) HR4.out (zac _) (by decide) ?_;intro w5 hb5 ho5))
    rw[HC.out]at hb5;have HM5:=qh (HM4.out.drew.cmd' ho5 hb5);clear hb5 ho5
    try go_wp2
    go_meet
    exact⟨by rw[HSZ.out];rfl,HM5⟩
  · have e80:((n:Int) == 80)=false:=by rw[beq_eq_false_iff_ne];omega
    have hl80:¬xs.length=80:=by rw[HXL.out];exact hn
    have HF:Hid (smSc xs=List.replicate 32 0∧smOwn xs=List.replicate 32 0∧smLast xs=⟨4,0,0,0,List.replicate 16 0⟩∧szE xs=2):=⟨by rw[smSc,if_neg hl80],by rw[smOwn,if_neg hl80],by rw[smLast,if_neg hl80],by rw[szE,if_neg hl80]⟩;clear hl80 hxl hn;go_wp2
    go_meet
    exact⟨by rw[HF.out.2.2.2];rfl,by rw[HF.out.1,HF.out.2.1,HF.out.2.2.1];exact HM⟩
 case rest =>
 obtain⟨rfl,HM2⟩:=hcut;clear HM HICM;obtain⟨w3,rfl⟩:=ex9 (wc)
 go_upto_region 10 with fail
 go_cut [48] (fun v wx=>v=.bool (idB hs)∧w3=wx)
 case first =>
  by_cases hm0:m=0
  · subst hm0
    obtain rfl:hs=[]:=List.eq_nil_of_length_eq_zero hl;go_wp2
    go_meet
    exact⟨rfl,rfl⟩
  · have hmp:(0:Int)<(m:Int):=om
    obtain⟨o,ho⟩:∃o,hs[0]? = some o:=⟨_,ge9 om⟩;obtain⟨b,off,rfl,hb,hrg⟩:=zbk hh hok ho om;have c1:w3.cell? ⟨b,off+1,none⟩=some (.int .u64 (o.id:Int)):=(HM2.out.bel.cell (p:=⟨b,off+1,none⟩) hb).trans (by have h5:=hrg 1 _ (Ho.at_id o);rwa [Nat.zero_mul,Nat.add_zero]at h5)
    have HIB:Hid (((o.id:Int) == 0)=idB hs):=by
     show _=_
     cases hs with
     | nil=>simp at ho
     | cons a l =>
      simp at ho
      subst ho
      show _=(a.id == 0)
      rw[Bool.eq_iff_iff]
      simp
    clear ho hrg hh;go_wp2
    go_meet
    exact⟨by rw[HIB.out],rfl⟩
 case rest =>
 obtain⟨rfl,rfl⟩:=hcut
 go_step
 go_cut [11] (fun v wx=>v=.int .i64 (idE hs:Int)∧w3=wx)
 case first =>
  have HIE:Hid (idE hs=if idB hs then 3 else 0):=rfl;generalize idB hs=ib at *
  cases ib
  · go_wp2
    go_meet
    exact⟨by rw[HIE.out];rfl,rfl⟩
  · go_wp2
    go_meet
    exact⟨by rw[HIE.out];rfl,rfl⟩
 case rest =>
 obtain⟨rfl,rfl⟩:=hcut;have l0:=cm_ld HM2.out.cmd HCL.out;have HE0:=qh HM2.out.bel;have hsz:w.heap.size≤w3.heap.size:=HM2.out.bel.size;generalize smLast xs=last at *;generalize pathE last hs=PE at *;generalize idE hs=IE at *;generalize szE xs=SE at *;have hLE:¬(LE:Int)=0:=om;clear hh hx hxl hok hl hm he HR HXL
 go_wp2_with (first
  | (go_at_call 53;(refine(HPA.out _ (by exact HE0.out)).mono ?_);rintro e w4 ⟨A4,n4,rfl,hB4⟩;have HM4:=qh (HM2.out.below hB4);clear hB4)
  | (go_at_call 41;(refine(HLE.out _ _ (by exact zm0 _ _ _ _ _)).mono ?_);rintro e w5 ⟨rfl,rfl⟩;have HM5:=qh (HM4.out.alloc (.cells #[.int .i64 (SE:Int),.int .i64 (IE:Int),.int .i64 (PE:Int)] 36)))
  | (refine zai rfl 59 [] rfl [] rr _ (zhq _) ?_)
  | (refine zai rfl 62 [] rfl [] rr _ (bldSo _) ?_)
  | (refine zab rfl 59 (.tmp 4) (.tmp 62) rfl w.heap.size z37 rr rr 59 z37 (by exact HM5.out.blk) HI37.out zk8 rfl ?_;intro w6 hb6 ho6;have HB6:=qh hb6;have HS6:=qh (ho6.blk HM5.out.sto om);have HE6:=qh (ho6.below HM5.out.bel lr HM5.out.bel.size);clear hb6 ho6)
  | (refine zab rfl 62 (.tmp 5) (.tmp 63) rfl (w.heap.size+1) zSo rr rr 62 zSo (by exact HS6.out) HISO.out (zdz _ _ _ _ _) rfl ?_;intro w7 hb7 ho7))
 have hb6:=ho7.blk HB6.out om;have hB7:=ho7.below HE6.out om HE6.out.size;exact bodyPost_ret (zlm rfl _ _ _ _ _ _ _ rfl rfl hb6 hb7 _ _ Tryz.underlying59 rfl HI37.out Tryz.underlying62 rfl HISO.out) rfl ⟨rfl,hB7⟩
end
section
attribute [local go_sem ↓] zio zh3 zhg zgo zcg zfj znj zmp zfp zb0
theorem zsl(hq own:List UInt8)(id:Int)(h1:hq.length=288)(h2:own.length=32)(w:World):(Instr.build 59 [(0,(.agg (u8s hq).toArray:Value)),(1,(.int .u64 id:Value)),(2,.agg (u8s own).toArray)].toArray).run Tryz.prog w=.ok (.agg (u8s hq++([(.int .u64 id:Value)]++u8s own)).toArray) w:=by
 have e0:(u8s hq).length=288:=by rw[zaa,h1]
 have e2:(u8s own).length=32:=by rw[zaa,h2]
 refine zb2 Tryz.zeroValue59 Tryz.underlying59 (pl37 _ Tryz.underlying59) ?_ w;rw[zc37]
 show Instr.fill _ _ [(0,_),(1,_),(2,_)]=_
 rw [zas (cs:=u8s hq) rfl (by rw[e0];rfl) (by rw[e0,zc8];omega),z37,zdl _ _ _ (by rw[e0,zaa,zar]),
   zas (cs:=[.int .u64 id]) rfl rfl (by simp[e0,zaa,zar]),zc5 _ [.int .u64 0] _ [.int .u64 id] 288 e0 sy,
   zas (cs:=u8s own) rfl (by rw[e2];rfl) (by simp[e0,e2,zaa,zar]),←as9,zer _ _ _ _ (by simp[e0]) (by simp[e2,zaa,zar]),as9]
 rfl
theorem zm2{a:Act}{f:Flt}{s:Option Nat}{t:Tmp}(h:f.d≠t):(putF a [(f,s)]).eval (.tmp t)=a.eval (.tmp t):=by
 cases s with
 | none=>rfl
 | some g =>
  show((a.put (some f.d) (f.v g)).eval (.tmp t))=_
  simp[Act.put,Act.eval,h]
theorem szKb(w:World):(sizeOf 23).run Tryz.prog w=.ok 32 w:=by kernel_rfl
theorem agKb(w:World):(isAgg 60).run Tryz.prog w=.ok false w:=by kernel_rfl
theorem hd16b:(Tryz.prog.info? 29).map (·.size)=some 16:=by kernel_rfl
theorem Blk.tne{w:World}{g g':Nat}{t t':TypeId}{cs cs':List Value}(h:Blk w g t cs)(h':Blk w g' t' cs')(ht:t≠t'):g≠g':=by
 intro e;subst e;have h5:=h.symm.trans h'
 injection h5 with h5
 injection h5 with _ h5 _
 exact ht h5
theorem szDh(w:World):(sizeOf 85).run Tryz.prog w=.ok 68 w:=by kernel_rfl
theorem zvSo(w:World):(zeroValue 62).run Tryz.prog w=.ok (.agg zSo.toArray) w:=by kernel_rfl
def placesSo:Array (Nat × Nat):=#[(0,16),(16,32),(48,1)]
theorem plSo(fields:Array Field)(h:Tryz.prog.underlying 62 = some (.struct fields))(w:World):(fields.mapM (fun f=>do pure (f.offset,←sizeOf f.type)):Sem (Array (Nat × Nat))).run Tryz.prog w=.ok placesSo w:=by
 rw[Tryz.underlying62]at h
 injection h with h
 injection h with h
 subst h
 kernel_rfl
theorem buildSo(mark own:List UInt8)(A:Option Addr)(m c:Nat)(h1:mark.length=16)(h2:own.length=32)(w:World):(Instr.build 62 [(0,(.agg (u8s mark).toArray:Value)),(1,.agg (u8s own).toArray),(2,.slice A m c)].toArray).run Tryz.prog w=.ok (.agg (soC mark own A m c).toArray) w:=by
 have e0:(u8s mark).length=16:=by rw[zaa,h1]
 have e2:(u8s own).length=32:=by rw[zaa,h2]
 refine zb2 zvSo Tryz.underlying62 (plSo _ Tryz.underlying62) ?_ w
 show Instr.fill _ _ [(0,_),(1,_),(2,_)]=_
 rw [zas (cs:=u8s mark) rfl (by rw[e0];rfl) (by rw[e0,zc7];omega),zSo,soC,zdl _ _ _ (by rw[e0];simp[zaa]),
   zas (cs:=u8s own) rfl (by rw[e2];rfl) (by simp[e0,e2,zaa]),zc5 _ (u8s (List.replicate 32 0)) _ (u8s own) 16 e0 (by rw[e2];simp[zaa]),
   zas (cs:=[.slice A m c]) rfl rfl (by simp[e0,e2]),←as9,zer _ _ _ _ (by simp[e0,e2]) sy,as9]
 rfl
theorem zuy{o:Oper}{a:Act}{W:World}(ho:o.op=.alloc 59):(execOp a.eval o).run Tryz.prog W=.ok (.value (.pointer (some ⟨W.heap.size,0,none⟩))) (W.alloc (.cells z37.toArray 59)):=by
 unfold execOp
 rw[ho]
 kernel_rfl
theorem zn1{o:Oper}{a:Act}{W:World}(ho:o.op=.alloc 62):(execOp a.eval o).run Tryz.prog W=.ok (.value (.pointer (some ⟨W.heap.size,0,none⟩))) (W.alloc (.cells zSo.toArray 62)):=by
 unfold execOp
 rw[ho]
 kernel_rfl
theorem zvx(xs:List UInt8)(hs:List Ho)(h1:(smH xs hs).length=288)(h3:id0 hs<18446744073709551616):u8s (smH xs hs)++([(.int .u64 (id0 hs:Int):Value)]++u8s (smOwn xs))=blkCells (smL xs hs):=by
 have hb:(Sh.beBytes (id0 hs) 8).length=8:=Sh.beBytes_len _ _;rw[blkCells,smL,List.drop_left' hb,List.take_left' hb,List.take_left' h1,zvk 8 (id0 hs) h3,←as9 (Sh.beBytes _ _),List.drop_left' (by rw[la9,hb,h1])]
def SmP(w:World)(xs:List UInt8)(hs:List Ho)(m:Nat)(e:Ending)(w':World):Prop :=
 ((scE (xs.take 32) hs≠0∧e=.returned (.tuple #[.agg z37.toArray,.agg zSo.toArray,.int .i64 (scE (xs.take 32) hs:Int)])) ∨
  (scE (xs.take 32) hs=0∧∃g,e=.returned (.tuple #[.agg (blkCells (smL xs hs)).toArray,.agg (soC (xs.drop 64) (smOwn xs) (some ⟨g,0,none⟩) m m).toArray,.int .i64 0])∧w.heap.size≤g∧Blk w' g 23 (u8s (smPays xs hs).flatten)))∧Below w.heap.size w w'
theorem zkg(A H:Option Addr)(n ca m c:Nat)(xs:List UInt8)(hs:List Ho)(w:World)(hx:Rd w A n (u8s xs))(hca:n≤ca)(hh:RdS 68 w H m (hs.flatMap Ho.cells))(hok:∀s∈hs,s.ok)(hl:hs.length=m)(he:sm3 xs hs=0):
 Calls Tryz.prog 24 #[.slice A n ca,.slice H m c] w (SmP w xs hs m):=by
 obtain⟨hl80,hpe,hn1,hn5,hid0⟩:=sm3_0 he;obtain⟨k,hk⟩:∃k,m=k+1:=⟨m-1,by omega⟩;subst hk;obtain rfl:n=80:=by rw[←hx.len,hl80]
 have hk4:k≤4:=om;have hc:(smLast xs).ok:=zda xs;have HPA:Hid (∀W,Below w.heap.size w W→Calls Tryz.prog 53 #[.agg (smLast xs).cells.toArray,.slice H (k+1) c] W fun e w'=>∃A',e=.returned (.tuple #[.slice A' (k+1) (k+1),.int .i64 0])∧RdS 20 w' A' (k+1) ((pathL (smLast xs) hs).flatMap Cm.cells)∧Below W.heap.size W w'):=fun W hW=>zm5 (smLast xs) hc H (k+1) c hs W (hh.bel hW lr) hok hl hpe
 have HPU:Hid (∀W,Below w.heap.size w W→Calls Tryz.prog 55 #[.slice H (k+1) c] W fun e w'=>∃A',e=.returned (.slice A' (k+1) (k+1))∧RdB w' A' (k+1) (hs.map Ho.pub)∧Below W.heap.size W w'):=fun W hW=>zlq H (k+1) c hs W (hh.bel hW lr) hok hl om
 have HSC:Hid (∀W C g,Rd W (some ⟨g,0,none⟩) 32 (u8s (xs.take 32))→RdB W C (k+1) (hs.map Ho.pub)→Calls Tryz.prog 54 #[.slice (some ⟨g,0,none⟩) 32 32,.slice C (k+1) (k+1)] W fun e w'=>∃A' n' c',e=.returned (.tuple #[.slice A' n' c',.int .i64 (scE (xs.take 32) hs:Int)])∧n'≤c'∧(scE (xs.take 32) hs=0→n'=k+1∧RdS 192 w' A' (k+1) ((scL (xs.take 32) hs).flatMap Sp.cells))∧Below W.heap.size W w'):=fun W C g h1 hp =>
  zp0 (some ⟨g,0,none⟩) C 32 32 (k+1) (k+1) (xs.take 32) hs W h1 om hp hok hl
 have HLE:Hid (∀W A3,Rd W A3 3 (i64s [0,0,0])→Calls Tryz.prog 41 #[.slice A3 3 3] W fun e w'=>e=.returned (.int .i64 0)∧W=w'):=fun W A3 h3=>zky A3 3 3 _ W h3 om
 have HCL:=qh (Cm.cells_len hc);have HICM:Hid ((Tryz.prog.info? 47).map (·.size)=some cm4.length):=hd76c;have HI37:Hid ((Tryz.prog.info? 59).map (·.size)=some z37.length):=by show _=_;rw[zc8];exact hd37
 have HISO:Hid ((Tryz.prog.info? 62).map (·.size)=some zSo.length):=by show _=_;rw[zc7];exact hdSo
 have HS:Hid (splice (u8s (List.replicate 32 0)) 0 ((u8s xs).take 32)=u8s (xs.take 32)):=by
  show _=_
  rw[zap _ _ (by rw[List.length_take,zaa,zaa,hl80];rfl),zaz]
 have HO:Hid (splice (u8s (List.replicate 32 0)) 0 ((u8s (xs.drop 32)).take 32)=u8s (smOwn xs)):=by
  show _=_
  rw[smOwn,if_pos hl80,zap _ _ (by rw[List.length_take,zaa,List.length_drop,zaa,hl80];rfl),zaz]
 have HC:Hid (splice cm4 4 ((u8s (xs.drop 64)).take 16)=(smLast xs).cells):=by
  show _=_
  rw[zj1 _ (by rw[List.length_drop,hl80]),smLast,if_pos hl80]
 obtain⟨b,off,rfl,hb,_⟩:=hx.2 om;have HR:=qh hx;obtain⟨o,ho⟩:∃o,hs[0]? = some o:=⟨_,ge9 om⟩;have HMO:=qh (mg9 ho);obtain⟨bh,oh,rfl,hbh,hrg⟩:=zbk hh hok ho om;have HID:Hid (w.cell? ⟨bh,oh+1,none⟩=some (.int .u64 (o.id:Int))):=by have h5:=hrg 1 _ (Ho.at_id o);rwa [Nat.zero_mul,Nat.add_zero]at h5
 have HI0:Hid (id0 hs=o.id):=by
  show _=_
  cases hs with
  | nil=>simp at ho
  | cons a l=>simp at ho;subst ho;rfl
 have hoid:((o.id:Int) == 0)=false:=by rw[beq_eq_false_iff_ne];have:=hid0 o ho;omega
 have e80:(((80:Nat):Int) == 80)=true:=rfl;have n32:¬ca=32:=om;have n64:¬ca=64:=om;have HL80:=qh hl80;have HOK:=qh hok;have HHL:=qh hl;have HPE:=qh hpe;have HN5:=qh hn5;clear hx hh hok hl he hl80 hpe hn1 hn5 hid0 ho hrg hc
 go_enter Tryz.func24, Tryz.ntmps24
 go_upto_region 7 with (first
  | (refine zai rfl 47 [(0,.const (.int .u8 4))] rfl _ rr (.agg cm4.toArray) (zmf _) ?_)
  | (refine zab rfl 47 (.tmp 9) (.tmp 21) rfl (w.heap.size+1+1+1+1) cm4 rr rr 47 zcmc (Blk.new' sy rfl) HICM.out (by decide) rfl ?_;intro w2 hb2 ho2;have HM:=qh (Mk5.first ho2 hb2);have HR2:Hid (Rd w2 (some ⟨b,off,none⟩) 80 (u8s xs)):=HR.out.below HM.out.bel;clear hb2 ho2)
  | (refine za7 rfl (.tmp 25) (.tmp 26) 22 rfl 5 Tryz.underlying22 zbz (w.heap.size+1+1) 0 32 32 rr (some ⟨b,off,none⟩) 80 ca rr 23 _ (by exact HM.out.sca) (u8s xs) (by exact HR2.out) (zac _) (by rw[zaa,lp9];decide) ?_;intro w3 hb3 ho3;rw[HS.out]at hb3;have HM3:=qh (HM.out.sca' ho3 hb3);have HR3:Hid (Rd w3.drew (some ⟨b,off+32,none⟩) 48 (u8s (xs.drop 32))):=(HR.out.below HM3.out.bel).drop' 32 48 rfl;clear hb3 ho3))
 go_region_held3 (fun _=>True) (trivial) ((refine zbx rfl (.tmp 28) (.tmp 30) 22 rfl 5 Tryz.underlying22 zcn (w.heap.size+1+1+1) 0 32 32 rr (some ⟨b,off+32,none⟩) 48 (ca-32) rr 23 _ (by exact HM3.out.drew.own) (u8s (xs.drop 32)) HR3.out (zac _) (by rw[zaa,lp9];decide) ?_;intro w4 hb4 ho4))
 rw[HO.out]at hb4;have HM4:=qh (HM3.out.drew.own' ho4 hb4);have HR4:Hid (Rd w4.drew (some ⟨b,off+64,none⟩) 16 (u8s (xs.drop 64))):=(HR.out.below HM4.out.bel).drop' 64 16 rfl;clear hb4 ho4;go_wp2
 go_region_held3 (fun _=>True) (trivial) ((refine zbx rfl (.tmp 33) (.tmp 35) 22 rfl 5 Tryz.underlying22 zcn (w.heap.size+1+1+1+1) 4 16 16 rr (some ⟨b,off+64,none⟩) 16 (ca-64) rr 47 _ (by exact HM4.out.drew.cmd) (u8s (xs.drop 64)) HR4.out (zac _) (by decide) ?_;intro w5 hb5 ho5))
 rw[HC.out]at hb5;have HM5:=qh (HM4.out.drew.cmd' ho5 hb5);have l5:=cm_ld HM5.out.cmd HCL.out;have c5:w5.cell? ⟨bh,oh+1,none⟩=some (.int .u64 (o.id:Int)):=(HM5.out.bel.cell (p:=⟨bh,oh+1,none⟩) hbh).trans HID.out;have HE5:=qh HM5.out.bel;have hsz5:w.heap.size≤w5.heap.size:=HM5.out.bel.size;clear hb5 ho5 HM HM3 HM4 HR2 HR3 HR4 HS HO HC HICM;obtain⟨CL,hCL⟩:=ex9 ((smLast xs).cells)
 have HCM:Hid ((CL.drop 4).take (u8s (xs.drop 64)).length=u8s (xs.drop 64)):=by
  show _=_
  rw[hCL,smLast,if_pos HL80.out];have h5:(u8s (xs.drop 64)).length=16:=by rw[zaa,List.length_drop,HL80.out]
  rw[h5];exact tk (by show(u8s (xs.drop 64)).length≤16;omega)
 rw[←hCL]at HPA HM5 l5 HCL;clear hCL;have hmp:(0:Int)<(k:Int)+1:=om;have hmp2:(0:Int)<((k+1:Nat):Int):=om
 go_upto_region 16 with (first
  | (go_at_call 53;(refine(HPA.out _ (by exact HE5.out)).mono ?_);rintro e w6 ⟨A6,rfl,hr6,hB6⟩;have HM6:=qh (HM5.out.below hB6);have HR6:=qh hr6;clear hB6 hr6)
  | (go_at_call 41;(refine(HLE.out _ _ (by exact zm0 _ _ _ _ _)).mono ?_);rintro e w7 ⟨rfl,rfl⟩;have HM7:=qh (HM6.out.alloc (.cells #[.int .i64 0,.int .i64 0,.int .i64 0] 36));have HR7:=qh (HR6.out.allo (.cells #[.int .i64 0,.int .i64 0,.int .i64 0] 36))))
 have HTL:Hid ((xs.take 32).length=32):=by show _=_;rw[List.length_take,HL80.out];rfl
 clear HPA HLE l5 c5 HE5 hmp hmp2 e80
 go_region_held3 (fun _=>True) (trivial) ((first
  | (go_at_call 55;(refine(HPU.out _ (by exact HM7.out.drew.bel)).mono ?_);rintro e w8 ⟨A8,rfl,hr8,hB8⟩;have HM8:=qh (HM7.out.drew.below hB8);have HR8:=qh (RdS.belo (w:=(w6.alloc (.cells #[.int .i64 0,.int .i64 0,.int .i64 0] 36)).drew) HR7.out hB8);have HP8:=qh hr8;clear hr8 hB8)
  | (go_at_call 54;(refine(HSC.out _ _ _ (by exact HM8.out.sca.all HTL.out) (by exact HP8.out)).mono ?_);rintro e w9 ⟨A9,n9,c9,rfl,hc9,hr9,hB9⟩;have HM9:=qh (HM8.out.below hB9);have HR9:=qh (HR8.out.belo hB9);have HQ9:=qh hr9
     clear hr9 hB9)))
 clear HPU HSC HM5 HM6 HM7 HM8 HR6 HR7 HR8 HP8
 go_upto_region 17 with fail
 have hc:=zda xs
 by_cases hsc:scE (xs.take 32) hs=0
 · have hse:((scE (xs.take 32) hs:Nat):Int)=0:=om
   obtain⟨rfl,hr9⟩:=HQ9.out hsc;have HR9s:=qh hr9;obtain⟨_,hs7,hs8⟩:=zib hsc
   have hhl:(smH xs hs).length=288:=by
    have h5:=zfq (cs:=pathL (smLast xs) hs) (ss:=scL (xs.take 32) hs) (n:=k+1) (ze7 hc HOK.out HPE.out) hs8 (by rw[zcv,HHL.out]) (by rw[hs7,HHL.out]) om (k+1) lr;rw[smH,HHL.out];exact h5
   have HBD:Hid (∀W,RdS 20 W A6 (k+1) ((pathL (smLast xs) hs).flatMap Cm.cells)→RdS 192 W A9 (k+1) ((scL (xs.take 32) hs).flatMap Sp.cells)→Calls Tryz.prog 51 #[.slice A6 (k+1) (k+1),.slice A9 (k+1) c9] W fun e w'=>e=.returned (.tuple #[.agg (u8s (smH xs hs)).toArray,.int .i64 0])∧Below W.heap.size W w'):=fun W h1 h2=>by
    rw[smH,HHL.out];exact zuw A6 A9 k (k+1) c9 (pathL (smLast xs) hs) (scL (xs.take 32) hs) W h1 h2 (ze7 hc HOK.out HPE.out) hs8 (by rw[zcv,HHL.out]) (by rw[hs7,HHL.out]) hc9 (by rw[←HHL.out];exact zkq HPE.out)
   have HHH:=qh hhl;have HOL:Hid ((smOwn xs).length=32):=by show _=_;rw[smOwn,if_pos HL80.out,List.length_take,List.length_drop,HL80.out];rfl
   have HSC0:=qh hsc;have HS7:=qh hs7;have HS8:=qh hs8;clear hr9 hs7 hs8 hhl HQ9 hsc;rw[hse];clear hse;obtain⟨Y,HY,HYl⟩:∃Z:List Value,Hid (Tryz.zeroCells32 = Z.toArray)∧Hid (Z.length=288):=⟨_,zc34',by show(u8s _).length=_;rw[zaa];simp⟩;have H34:Hid ((Tryz.prog.info? 32).map (·.size)=some (u8s (smH xs hs)).length):=by show _=_;rw[zaa,HHH.out];exact hd34
   have HF34:Hid ((u8s (smH xs hs)).length=Y.length):=by show _=_;rw[zaa,HHH.out,HYl.out]
   go_upto_region 22 with (first
    | (go_at_call 51;(refine(HBD.out _ (by exact HR9.out) (by exact HR9s.out)).mono ?_);rintro e w10 ⟨rfl,hB10⟩;have HM10:=qh (HM9.out.below hB10);have HT10:=qh (HR9s.out.belo hB10);clear hB10)
    | (refine zab rfl 32 (.tmp 17) (.tmp 81) rfl w10.heap.size (u8s (smH xs hs)) rr rr 32 Y (by exact Blk.new' rfl HY.out) H34.out (zac _) HF34.out ?_;intro w11 hb11 ho11;have hD11:Below w10.heap.size w10 w11:=ho11.below ((Below.refl _ w10).alloc lr _) lr sy;have HM11:=qh (HM10.out.below hD11);have HT11:=qh (HT10.out.belo hD11);have HH11:=qh hb11;clear hb11 ho11 hD11))
   clear HR9 HR9s HM9 HM10 HT10 HBD;have hidlt:id0 hs<18446744073709551616:=by rw[HI0.out];exact(HOK.out o HMO.out).1
   have HB37:Hid (∀w,(Instr.build 59 [(0,(.agg (u8s (smH xs hs)).toArray:Value)),(1,(.int .u64 (id0 hs:Int):Value)),(2,.agg (u8s (smOwn xs)).toArray)].toArray).run Tryz.prog w=.ok (.agg (blkCells (smL xs hs)).toArray) w):=fun w=>by
    rw[←zvx xs hs HHH.out hidlt];exact zsl _ _ _ HHH.out HOL.out w
   have hL328:(smL xs hs).length=328:=by rw[smL,la9,la9,Sh.beBytes_len,HHH.out,HOL.out]
   have HIB:Hid ((Tryz.prog.info? 59).map (·.size)=some (blkCells (smL xs hs)).length):=by show _=_;rw[zbh _ hL328];exact hd37
   have HIL:Hid ((blkCells (smL xs hs)).length=z37.length):=by show _=_;rw[zbh _ hL328,zc8]
   have HCO:Hid (w11.cell? ⟨bh,oh+1,none⟩=some (.int .u64 (id0 hs:Int))):=by show _=_;rw[HI0.out];exact(HM11.out.bel.cell (p:=⟨bh,oh+1,none⟩) hbh).trans HID.out
   have hbh11:bh<w11.heap.size:=Nat.lt_of_lt_of_le hbh HM11.out.bel.size;have HIOW:Hid ((Tryz.prog.info? 23).map (·.size)=some (u8s (smOwn xs)).length):=by show _=_;rw[zaa,HOL.out];exact hd24
   have HTOW:Hid (((u8s (smOwn xs)).drop 0).take (u8s (smOwn xs)).length=u8s (smOwn xs)):=by show _=_;rw[List.drop_zero,List.take_length]
   have HV0:Hid (Below w11.heap.size w11 { w11 with drawn:=w11.drawn+1 }):=(Below.refl _ w11).drew;clear hidlt hL328 H34 HF34 HY HYl HN5 HPE HI0 HID hoid;refine kgo kr 10 (fun w'=>Below w11.heap.size w11 w') HV0.out (fun _ _ _ _ _ h=>h) ?_;refine kl 0 (.agg (u8s (smH xs hs)).toArray) rfl kr (fun w' hw'=>zad (x:=.tmp 17) rr kr (hd_ld (HH11.out.below hw' HH11.out.lt) (by rw[zaa];exact HHH.out))) ?_;refine kp 1 (.slice (some ⟨bh,oh,none⟩) (k+1) c) rfl kr (fun _=>kr) ?_;refine kp 2 (.pointer (some ⟨bh,oh+0*68,none⟩)) rfl kr (fun _=>zbn (t:=65) (e:=85) (x:=.tmp 89) (y:=.const (.int .i64 0)) (n:=k+1) (c:=c) (p:=0) (sz:=68) rr kr rr om Tryz.underlying65 szDh) ?_;refine kp 3 (.pointer (some ⟨bh,oh,none⟩)) rfl kr (fun _=>kr) ?_;refine kp 4 (.pointer (some ⟨bh,oh,none⟩)) rfl kr (fun _=>kr) ?_;refine kp 5 (.pointer (some ⟨bh,oh+1,none⟩)) rfl kr (fun _=>kr) ?_;refine kl 6 (.int .u64 (id0 hs:Int)) rfl kr (fun w' hw'=>za5 (t:=45) (x:=.tmp 93) rr kr agU64 ((hw'.cell (p:=⟨bh,oh+1,none⟩) hbh11).trans HCO.out)) ?_;refine kl 7 (.agg (u8s (smOwn xs)).toArray) rfl kr (fun w' hw'=>zad (x:=.tmp 8) rr kr (zal (HM11.out.own.below hw' HM11.out.own.lt) 23 0 (u8s (smOwn xs)) HTOW.out _ Tryz.underlying23 rfl HIOW.out)) ?_;refine kp 8 (.agg (blkCells (smL xs hs)).toArray) rfl kr (fun _=>znu 59 [(0,.tmp 88),(1,.tmp 94),(2,.tmp 95)] rr [(0,(.agg (u8s (smH xs hs)).toArray:Value)),(1,(.int .u64 (id0 hs:Int):Value)),(2,.agg (u8s (smOwn xs)).toArray)] kr (HB37.out _)) ?_;intro q8 q9;clear q8 q9;refine AnyG.start w11.heap.size [⟨9,18,59,z37,fun g=>.pointer (some ⟨g,0,none⟩)⟩] (fun W=>Below w11.heap.size w11 W) 1 rfl HV0.out ?_;refine AnyG.fin sy kr ?_ ga9 gs9 (fun W h=>h) ?_
   · exact flt1 ⟨_,rfl,rfl,rfl,fun F W _=>zuy rfl⟩
   intro F W hF h0 hR hok;obtain⟨g18,rfl⟩:=zjf hF h0;obtain⟨⟨hg18,hb18,_⟩,_⟩:=hok;refine AnyK.storeAll 10 g18 (blkCells (smL xs hs)) 59 z37 rr rfl rfl rr kr kr kr hb18 HIB.out (zcy _) HIL.out (fun _ _ _ h=>(by cases h)) ?_;intro w12 hb12 ho12;have hD12:Below w11.heap.size w11 w12:=ho12.below hR hg18 hR.size;have HM12:=qh (HM11.out.below hD12);have hms11:w.heap.size+4<w11.heap.size:=HM11.out.cmd.lt;have HT12:=qh (HT11.out.belo hD12);have HB12:=qh hb12;refine AnyK.done kr ?_;clear hb12 ho12 hD12 hb18 hF h0 hR HV0 HH11 HM11 HT11 HCO hbh11;simp only[putF]
   go_upto_region 23 with fail
   have HBS:Hid (∀g w,(Instr.build 62 [(0,(.agg (u8s (xs.drop 64)).toArray:Value)),(1,(.agg (u8s (smOwn xs)).toArray:Value)),(2,.slice (some ⟨g,0,none⟩) (k+1) (k+1))].toArray).run Tryz.prog w=.ok (.agg (soC (xs.drop 64) (smOwn xs) (some ⟨g,0,none⟩) (k+1) (k+1)).toArray) w):=fun g w=>buildSo _ _ _ _ _ (by rw[List.length_drop,HL80.out]) HOL.out w
   have HIS:Hid (∀g,(Tryz.prog.info? 62).map (·.size)=some (soC (xs.drop 64) (smOwn xs) (some ⟨g,0,none⟩) (k+1) (k+1)).length):=fun g=>by rw[zd0 (by rw[List.length_drop,HL80.out]) HOL.out];exact hdSo
   have HIZ:Hid (∀g,(soC (xs.drop 64) (smOwn xs) (some ⟨g,0,none⟩) (k+1) (k+1)).length=zSo.length):=fun g=>by rw[zd0 (by rw[List.length_drop,HL80.out]) HOL.out,zc7]
   have HIM:Hid ((Tryz.prog.info? 29).map (·.size)=some (u8s (xs.drop 64)).length):=by show _=_;rw[zaa,List.length_drop,HL80.out];exact hd16b
   have HK1:Hid (((k:Int)+1)=((k+1:Nat):Int)):=rfl;have HK2:Hid (32*(k+1)≤281474976710656):=(by show _≤_;omega);have HK3:Hid (k+1≤140737488355328):=(by show _≤_;omega);have HV1:Hid (Below w12.heap.size w12 { w12 with drawn:=w12.drawn+1 }):=(Below.refl _ w12).drew;refine kgo kr 8 (fun w'=>Below w12.heap.size w12 w') HV1.out (fun _ _ _ _ _ h=>h) ?_;refine kp 0 (.pointer (some ⟨w.heap.size+1+1+1+1,4,none⟩)) rfl kr (fun _=>kr) ?_;refine kl 1 (.agg (u8s (xs.drop 64)).toArray) rfl kr (fun w' hw'=>zad (x:=.tmp 97) rr kr (zal (HM12.out.cmd.below hw' HM12.out.cmd.lt) 29 4 (u8s (xs.drop 64)) HCM.out _ Tryz.underlying29 rfl HIM.out)) ?_;refine kl 2 (.agg (u8s (smOwn xs)).toArray) rfl kr (fun w' hw'=>zad (x:=.tmp 8) rr kr (zal (HM12.out.own.below hw' HM12.out.own.lt) 23 0 (u8s (smOwn xs)) HTOW.out _ Tryz.underlying23 rfl HIOW.out)) ?_;refine kp 3 (.slice A9 (k+1) c9) rfl kr (fun _=>kr) ?_;refine kp 4 (.int .i64 ((k:Int)+1)) rfl kr (fun _=>kr) ?_;intro q8 q9;clear q8 q9;refine AnyG.start w12.heap.size [⟨7,19,62,zSo,fun g=>.pointer (some ⟨g,0,none⟩)⟩] (fun W=>Below w12.heap.size w12 W) 3 rfl HV1.out ?_;refine AnyG.step 5 (di:=102) [] (fun g:Nat=>.slice (some ⟨g,0,none⟩) (k+1) (k+1)) (fun g W=>Below w12.heap.size w12 W∧w12.heap.size≤g∧Blk W g 23 (rep ((k+1)*32) (.int .u8 0))) rr rfl sy sy kr ?_ ?_ ga9 gs9 (fun W h=>h) (fun _ W h=>h.1) ?_
   · intro F W hF hR hok hrd K hK
     obtain⟨s1,rfl⟩:=zil hF;refine zmk (.tmp 101) (.tmp 101) 60 rfl 23 (.agg (List.replicate 32 (.int .u8 0)).toArray) 32 32 (.int .u8 0) Tryz.underlying60 iA32 rfl (by decide) .i64 .i64 ((k:Int)+1) ((k:Int)+1) ((zm2 (by decide)).trans kr) ((zm2 (by decide)).trans kr) (k+1) (k+1) HK1.out HK1.out lr HK2.out HK3.out ?_;intro w' hb hg hs;exact hK W.heap.size _ ⟨hR.trans ((zaf hg).mono hR.size),hR.size,hb⟩ (zaf hg)
   · exact flt1 ⟨_,rfl,rfl,rfl,fun F W _=>zn1 rfl⟩
   intro g;refine AnyG.pure 6 (di:=103) (v:=.agg (soC (xs.drop 64) (smOwn xs) (some ⟨g,0,none⟩) (k+1) (k+1)).toArray) rfl rfl rfl sy kr (fun _ _ _ h=>h) (fun F W hF=>by obtain⟨s1,rfl⟩:=zil hF;rcases s1 with _|k1 <;> exact znu 62 [(0,.tmp 98),(1,.tmp 99),(2,.tmp 102)] rr [(0,(.agg (u8s (xs.drop 64)).toArray:Value)),(1,(.agg (u8s (smOwn xs)).toArray:Value)),(2,.slice (some ⟨g,0,none⟩) (k+1) (k+1))] kr (HBS.out _ _)) (fun W h=>h.1) ?_;refine AnyG.fin sy kr ?_ (fun W o h=>⟨h.1.alloc h.1.size o,h.2.1,h.2.2.alloc o⟩) (fun W h=>h.1.size) (fun W h=>h.1) ?_
   · exact flt1 ⟨_,rfl,rfl,rfl,fun F W _=>zn1 rfl⟩
   intro F W hF h0 hR hok;obtain⟨g19,rfl⟩:=zjf hF h0;obtain⟨⟨hg19,hb19,_⟩,_⟩:=hok;have hne:g≠g19:=Blk.tne hR.2.2 hb19 (by decide);refine AnyK.storeAll 8 g19 (soC (xs.drop 64) (smOwn xs) (some ⟨g,0,none⟩) (k+1) (k+1)) 62 zSo rr rfl rfl rr kr kr kr hb19 (HIS.out g) (zdz _ _ _ _ _) (HIZ.out g) (fun _ _ _ h=>(by cases h)) ?_;intro w13 hb13 ho13;have HD13:Hid (Below w12.heap.size w12 w13):=ho13.below hR.1 hg19 hR.1.size;have HS13:=qh hb13;have HG13:=qh (ho13.blk hR.2.2 hne);have HGG:Hid (w12.heap.size≤g):=hR.2.1;have HG19:=qh hg19;refine AnyK.done kr ?_;clear hb13 ho13 hb19 hF h0 hR HV1 hg19 HCM HIM HTOW HIOW HB37 HBS;simp only[putF]
   go_upto_region 25 with fail
   obtain⟨b9,off9,rfl,hb9,_⟩:=HT12.out.2 om;have HPL:Hid ((smPays xs hs).length=k+1):=by show _=_;rw[smPays,List.length_map,HS7.out,HHL.out]
   have HPS:Hid (∀x∈smPays xs hs,x.length=32):=fun x hx=>by
    obtain⟨s,hs9,rfl⟩:=List.mem_map.1 hx;exact(HS8.out s hs9).2.2.1
   have HB13:=qh (HB12.out.below HD13.out HB12.out.lt);have hg18l:g18<w12.heap.size:=HB12.out.lt;have hms:w.heap.size+4<w12.heap.size:=HM12.out.cmd.lt;have HM13:=qh (HM12.out.below HD13.out);have HZ0:Hid (Blk w13 g 23 (u8s ((smPays xs hs).take 0).flatten++rep ((k+1-0)*32) (.int .u8 0))):=HG13.out;have HPE2:Hid (Below w12.heap.size w12 w13):=HD13.out;clear HM12 HB12 HG13 HIB HIL HK1 HK2 HK3 HIZ
   go_wp2_with fail
   go_loopg [106] (k+1) (fun kk q wr=>∃i:Nat,i≤k+1∧kk=k+1-i∧q=.int .i64 i∧Hid (Blk wr g 23 (u8s ((smPays xs hs).take i).flatten++rep ((k+1-i)*32) (.int .u8 0)))∧Hid (Blk wr g19 62 (soC (xs.drop 64) (smOwn xs) (some ⟨g,0,none⟩) (k+1) (k+1)))∧Hid (Below w12.heap.size w12 wr)∧Hid (Mk5 w wr (xs.take 32) (smOwn xs) CL)∧Hid (Blk wr g18 59 (blkCells (smL xs hs))))
   case atStart=>exact⟨0,by omega,rfl,rfl,HZ0,HS13,HPE2,HM13,HB13⟩
   case round =>
    clear HZ0 HS13 HPE2 HM13 HB13 HD13;obtain⟨i,hi,hgk,rfl,HZ,HS,HE,HM,HB⟩:=hrel;have HGK:=qh hgk;clear hgk
    by_cases hlt:i<k+1
    · have hlt2:(i:Int)<(k:Int)+1:=om
      have hlt3:(i:Int)<((k+1:Nat):Int):=om;obtain⟨s,hsi⟩:∃s,(scL (xs.take 32) hs)[i]? = some s:=⟨_,ge9 (by rw[HS7.out,HHL.out];exact hlt)⟩;have hsk:=HS8.out s (mg9 hsi);have hpi:(smPays xs hs)[i]? = some s.pay:=by rw[smPays,List.getElem?_map,hsi];rfl
      have HRP:Hid (∀W,Below wr.heap.size wr W→W.rangeAt b9 (off9+i*192+64) (u8s s.pay)):=fun W hW=>(zdy (HT12.out.belo (HE.out.trans (hW.mono HE.out.size))) HS8.out hsi om 64 s.pay (Sp.pay_at hsk)).2
      have HPY:Hid (s.pay.length=32):=hsk.2.2.1
      have HTK:Hid (((smPays xs hs).take i).flatten++s.pay=((smPays xs hs).take (i+1)).flatten):=by
       show _=_
       rw[List.take_add_one,hpi]
       simp
      have HTL2:Hid (((smPays xs hs).take i).flatten.length=i*32):=by
       show _=_
       have h5:∀l:List (List UInt8),(∀x∈l,x.length=32)→l.flatten.length=l.length*32:=fun l h=>by
        induction l with
        | nil=>rfl
        | cons a l ih=>rw[List.flatten_cons,la9,h a sy,ih (fun x hx=>h x (by simp[hx])),List.length_cons];omega
       rw[h5 _ (fun x hx=>HPS.out x (List.mem_of_mem_take hx)),List.length_take,HPL.out]
       congr 1
       omega
      have HSP:Hid (splice (u8s ((smPays xs hs).take i).flatten++rep ((k+1-i)*32) (.int .u8 0)) (0+i*32) (u8s s.pay)=u8s ((smPays xs hs).take (i+1)).flatten++rep ((k+1-(i+1))*32) (.int .u8 0)):=by
       show _=_
       have h5:=zhj ((smPays xs hs).take i).flatten s.pay (k+1) i HTL2.out HPY.out hlt;rw[tk (l:=u8s s.pay) (by rw[zaa,HPY.out];exact lr),HTK.out]at h5;rw[Nat.zero_add];exact h5
      have HLN:Hid (0+i*32+(u8s s.pay).length≤(u8s ((smPays xs hs).take i).flatten++rep ((k+1-i)*32) (.int .u8 0:Value)).length):=by
       show _≤_
       rw[la9,zaa,zaa,HPY.out,HTL2.out,zar];omega
      have HIP:Hid ((Tryz.prog.info? 23).map (·.size)=some (u8s s.pay).length):=by show _=_;rw[zaa,HPY.out];exact hd24
      have HC48:Hid ((soC (xs.drop 64) (smOwn xs) (some ⟨g,0,none⟩) (k+1) (k+1))[48]? = some (.slice (some ⟨g,0,none⟩) (k+1) (k+1))):=by
       show _=_
       rw[soC,ar9 (by rw[zaa,List.length_drop,HL80.out];omega),ar9 (by simp only[zaa,List.length_drop,HL80.out,HOL.out];omega)]
       simp[zaa,List.length_drop,HL80.out,HOL.out]
      have HV:Hid (Below wr.heap.size wr { wr with drawn:=wr.drawn+1 }):=(Below.refl _ wr).drew;clear hsi hpi hsk;generalize s.pay=PY at *
      go_upto_region 27 with fail
      refine kgo kr 10 (fun W=>Below wr.heap.size wr W) HV.out (fun _ _ _ _ _ h=>h) ?_;refine kp 0 (.pointer (some ⟨g19,48,none⟩)) rfl kr (fun _=>kr) ?_;refine kl 1 (.slice (some ⟨g,0,none⟩) (k+1) (k+1)) rfl kr (fun w' hw'=>za5 (t:=60) (x:=.tmp 109) rr kr agKb (((HS.out.below hw' HS.out.lt).cell 48).trans HC48.out)) ?_;refine kp 2 (.int .i64 (i:Int)) rfl kr (fun _=>kr) ?_;refine kp 3 (.slice (some ⟨b9,off9,none⟩) (k+1) c9) rfl kr (fun _=>kr) ?_;refine kp 4 (.int .i64 (i:Int)) rfl kr (fun _=>kr) ?_;refine kp 5 (.pointer (some ⟨b9,off9+i*192,none⟩)) rfl kr (fun _=>zbn (t:=116) (e:=43) (x:=.tmp 112) (y:=.tmp 113) (n:=k+1) (c:=c9) (p:=i) (sz:=192) rr kr kr hlt Tryz.underlying116 szSp) ?_;refine kp 6 (.pointer (some ⟨b9,off9+i*192,none⟩)) rfl kr (fun _=>kr) ?_;refine kp 7 (.pointer (some ⟨b9,off9+i*192+64,none⟩)) rfl kr (fun _=>kr) ?_;refine kl 8 (.agg (u8s PY).toArray) rfl kr (fun w' hw'=>zad (x:=.tmp 116) rr kr (run_loadAt_mid w' b9 (off9+i*192+64) 23 (u8s PY) _ (HRP.out w' hw') Tryz.underlying23 rfl HIP.out)) ?_;refine kp 9 (.pointer (some ⟨g,0+i*32,none⟩)) rfl kr (fun _=>zbn (t:=60) (e:=23) (x:=.tmp 110) (y:=.tmp 111) (n:=k+1) (c:=k+1) (p:=i) (sz:=32) rr kr kr hlt Tryz.underlying60 szKb) ?_;intro q8 q9;clear q8 q9;refine AnyK.storeAt 10 g (0+i*32) (u8s PY) 23 _ _ rr rfl rfl rr kr kr kr (by exact HZ.out.drew) HIP.out (zac _) HLN.out HSP.out (fun _ _ _ h=>(by cases h)) ?_;intro w14 hb14 ho14;have HZ14:=qh hb14;have HS14:=qh (ho14.blk HS.out.drew (fun e=>hne e.symm));have HE14:=qh (ho14.below HE.out.drew HGG.out HE.out.drew.size)
      have HM14:Hid (Mk5 w w14 (xs.take 32) (smOwn xs) CL):=by
       have hq:=HGG.out;have hm:=HM.out.drew;exact⟨ho14.blk hm.blk om,ho14.blk hm.sto om,ho14.blk hm.sca om,ho14.blk hm.own om,ho14.blk hm.cmd om,ho14.below hm.bel om hm.bel.size⟩
      have HB14:=qh (ho14.blk HB.out.drew (by have:=HGG.out;omega));refine AnyK.done kr ?_;clear hb14 ho14 HV HRP HSP HLN HIP HC48 HTK HTL2
      go_wp2_with fail
      go_roundg (k+1-(i+1))
      case measure=>have:=HGK.out;omega
      case rel=>exact⟨i+1,by omega,rfl,by go_num,HZ14,HS14,HE14,HM14,HB14⟩
    · obtain rfl:i=k+1:=om
      have hlt2:¬(((k+1:Nat):Int)<(k:Int)+1):=om;rw[show((k+1:Nat):Int)=(k:Int)+1 from rfl]
      have HZF:Hid (Blk wr g 23 (u8s (smPays xs hs).flatten)):=by
       have h5:=HZ.out;rw[tk (by rw[HPL.out];exact lr),Nat.sub_self,Nat.zero_mul,show rep 0 (.int .u8 0:Value)=[] from rfl,List.append_nil]at h5;exact h5
      have hL328:(smL xs hs).length=328:=by rw[smL,la9,la9,Sh.beBytes_len,HHH.out,HOL.out]
      have HIB:Hid ((Tryz.prog.info? 59).map (·.size)=some (blkCells (smL xs hs)).length):=by show _=_;rw[zbh _ hL328];exact hd37
      have HIL:Hid ((blkCells (smL xs hs)).length=z37.length):=by show _=_;rw[zbh _ hL328,zc8]
      have HIZ:Hid ((soC (xs.drop 64) (smOwn xs) (some ⟨g,0,none⟩) (k+1) (k+1)).length=zSo.length):=by show _=_;rw[zd0 (by rw[List.length_drop,HL80.out]) HOL.out,zc7]
      have HLB:Hid (∀W,Blk W g18 59 (blkCells (smL xs hs))→(ldAt 59 (.pointer (some ⟨g18,0,none⟩))).run Tryz.prog W=.ok (.agg (blkCells (smL xs hs)).toArray) W):=fun W h=>zal h 59 0 _ (by rw[List.drop_zero,List.take_length]) _ Tryz.underlying59 rfl HIB.out
      have HLS:Hid (∀W,Blk W g19 62 (soC (xs.drop 64) (smOwn xs) (some ⟨g,0,none⟩) (k+1) (k+1))→(ldAt 62 (.pointer (some ⟨g19,0,none⟩))).run Tryz.prog W=.ok (.agg (soC (xs.drop 64) (smOwn xs) (some ⟨g,0,none⟩) (k+1) (k+1)).toArray) W):=fun W h=>zal h 62 0 _ (by rw[List.drop_zero,List.take_length]) _ Tryz.underlying62 rfl (HIS.out g)
      have hs12:w12.heap.size≤g:=HGG.out;have hs19:w12.heap.size≤g19:=HG19.out;clear HZ hL328 HPS
      go_upto_region 29 with fail
      refine kgo kr 3 (fun w'=>Blk w' g18 59 (blkCells (smL xs hs))∧Blk w' g19 62 (soC (xs.drop 64) (smOwn xs) (some ⟨g,0,none⟩) (k+1) (k+1))) (⟨HB.out.drew,HS.out.drew⟩) (fun _ _ _ _ _ h=>h) ?_;refine kl 0 (.agg (blkCells (smL xs hs)).toArray) rfl kr (fun w' hw'=>zad (x:=.tmp 18) rr kr (HLB.out _ hw'.1)) ?_;refine kl 1 (.agg (soC (xs.drop 64) (smOwn xs) (some ⟨g,0,none⟩) (k+1) (k+1)).toArray) rfl kr (fun w' hw'=>zad (x:=.tmp 19) rr kr (HLS.out _ hw'.2)) ?_;intro q8 q9;clear q8 q9;refine AnyK.storeAll 2 w.heap.size (blkCells (smL xs hs)) 59 z37 rr rfl rfl rr kr kr kr HM.out.drew.blk HIB.out (zcy _) HIL.out (fun _ _ ho _=>⟨ho.blk HB.out.drew om,ho.blk HS.out.drew om⟩) ?_;intro w15 hb15 ho15;have HS15:=qh (ho15.blk HM.out.drew.sto om);have HG15:=qh (ho15.blk HZF.out.drew om);have HE15:=qh (ho15.below HM.out.drew.bel lr HM.out.drew.bel.size);have HB15:=qh hb15;refine AnyK.storeAll 3 (w.heap.size+1) (soC (xs.drop 64) (smOwn xs) (some ⟨g,0,none⟩) (k+1) (k+1)) 62 zSo rr rfl rfl rr kr kr kr HS15.out (HIS.out g) (zdz _ _ _ _ _) HIZ.out (fun _ _ _ h=>(by cases h)) ?_;intro w16 hb16 ho16;have HG16:=qh (ho16.blk HG15.out om);have HE16:=qh (ho16.below HE15.out om HE15.out.size);have HB16:=qh (ho16.blk HB15.out om);have HS16:=qh hb16;refine AnyK.val 4 (v:=.int .i64 0) rr kr rfl kr (fun h=>(by cases h)) ?_;refine AnyK.done kr ?_;clear hb15 ho15 hb16 ho16;go_wp2;have hfin:SmP w xs hs (k+1) (.returned (.tuple #[.agg (blkCells (smL xs hs)).toArray,.agg (soC (xs.drop 64) (smOwn xs) (some ⟨g,0,none⟩) (k+1) (k+1)).toArray,.int .i64 0])) w16:=⟨.inr ⟨HSC0.out,g,rfl,by omega,HG16.out⟩,HE16.out⟩;exact bodyPost_ret (zlm (p:=4) (p2:=5) (u:=6) (ty:=59) (ty2:=62) rfl _ w.heap.size (w.heap.size+1) _ _ (blkCells (smL xs hs)) (soC (xs.drop 64) (smOwn xs) (some ⟨g,0,none⟩) (k+1) (k+1)) kr kr HB16.out HS16.out _ _ Tryz.underlying59 rfl HIB.out Tryz.underlying62 rfl (HIS.out g)) rfl hfin
 · have hsi:¬((scE (xs.take 32) hs:Nat):Int)=0:=om
   have HSN:=qh hsc;clear hsc HQ9;have hfin:∀W,Below w.heap.size w W→SmP w xs hs (k+1) (.returned (.tuple #[.agg z37.toArray,.agg zSo.toArray,.int .i64 (scE (xs.take 32) hs:Int)])) W:=fun W h=>⟨.inl ⟨HSN.out,rfl⟩,h⟩
   have HFN:=qh hfin;clear hfin;generalize scE (xs.take 32) hs=SE at *
   go_wp2_with (first
    | (refine zai rfl 59 [] rfl [] rr _ (zhq _) ?_)
    | (refine zai rfl 62 [] rfl [] rr _ (bldSo _) ?_)
    | (refine zab rfl 59 (.tmp 4) (.tmp 74) rfl w.heap.size z37 rr rr 59 z37 (by exact HM9.out.blk) HI37.out zk8 rfl ?_;intro w10 hb10 ho10;have HB10:=qh hb10;have HS10:=qh (ho10.blk HM9.out.sto om);have HE10:=qh (ho10.below HM9.out.bel lr HM9.out.bel.size);clear hb10 ho10)
    | (refine zab rfl 62 (.tmp 5) (.tmp 75) rfl (w.heap.size+1) zSo rr rr 62 zSo (by exact HS10.out) HISO.out (zdz _ _ _ _ _) rfl ?_;intro w11 hb11 ho11))
   have hb10:=ho11.blk HB10.out om;have hB11:=ho11.below HE10.out om HE10.out.size;exact bodyPost_ret (zlm (p:=4) (p2:=5) (u:=6) (ty:=59) (ty2:=62) rfl _ w.heap.size (w.heap.size+1) _ _ z37 zSo kr kr hb10 hb11 _ _ Tryz.underlying59 rfl HI37.out Tryz.underlying62 rfl HISO.out) rfl (HFN.out _ hB11)
end
section
theorem zw7(x y:Value):binOp .neq 29 x y=neAt 29 x y:=rfl
theorem zw6(x y:Value):binOp .neq 23 x y=neAt 23 x y:=rfl
attribute [local go_sem ↓] zfp zb0 zw7 zw6
theorem znc{P:Program}{t e:TypeId}{n:Nat}{i:TypeInfo}(hu:P.underlying t=some (.array n e))(hi:P.info? e=some i)(hc:P.cellsOf e=1)(he:P.plainKey e=true)(hue:P.underlying e=some (.int .u8))(a:List UInt8)(ha:a.length=n)(w:World):
 (neAt t (.agg (u8s a).toArray) (.agg (u8s a).toArray)).run P w=.ok (.bool false) w:=by
 unfold neAt
 rw[run_neq_struct,run_equalIn_array w 9999 _ _ hu hi,hc,List.range_eq_range',←ha,zff 9998 e he hue a a rfl w a.length 0 om]
 simp
theorem zpj:∃i,Tryz.prog.info? 5 = some i:=by
 have h:(Tryz.prog.info? 5).isSome=true:=by kernel_rfl
 exact Option.isSome_iff_exists.1 h
theorem ne16c(a:List UInt8)(ha:a.length=16)(w:World):(neAt 29 (.agg (u8s a).toArray) (.agg (u8s a).toArray)).run Tryz.prog w=.ok (.bool false) w:=by
 obtain⟨i,hi⟩:=zpj;exact znc Tryz.underlying29 hi kr kr Tryz.underlying5 a ha w
theorem ne32b(a:List UInt8)(ha:a.length=32)(w:World):(neAt 23 (.agg (u8s a).toArray) (.agg (u8s a).toArray)).run Tryz.prog w=.ok (.bool false) w:=by
 obtain⟨i,hi⟩:=zpj;exact znc Tryz.underlying23 hi kr kr Tryz.underlying5 a ha w
theorem zmw{mark own:List UInt8}(h1:mark.length=16)(h2:own.length=32)(A:Option Addr)(m c:Nat):(soC mark own A m c)[48]? = some (.slice A m c):=by
 rw[soC,ar9 (by rw[zaa];omega),ar9 (by simp only[zaa];omega)]
 simp[zaa,h1,h2]
theorem zmv{mark own:List UInt8}(_h1:mark.length=16)(A:Option Addr)(m c:Nat):((soC mark own A m c).drop 0).take (u8s mark).length=u8s mark:=by rw[List.drop_zero,soC,List.take_left' rfl]
theorem zpv{mark own:List UInt8}(h1:mark.length=16)(A:Option Addr)(m c:Nat):((soC mark own A m c).drop 16).take (u8s own).length=u8s own:=by rw[soC,List.drop_left' (by rw[zaa,h1]),List.take_left' rfl]
theorem zkp{w:World}{A:Option Addr}{m:Nat}{ks:List (List UInt8)}(h:RdS 32 w A m (ks.flatMap u8s))(hk:∀k∈ks,k.length=32){i:Nat}{x:List UInt8}(hi:ks[i]? = some x)(hm:0<m):∃b off,A=some ⟨b,off,none⟩∧b<w.heap.size∧w.rangeAt b (off+i*32) (u8s x):=by
 obtain⟨b,off,e,hb,hc⟩:=h.2 hm;refine⟨b,off,e,hb,fun j v hv=>?_⟩;have h1:=zdv (f:=u8s) (sz:=32) (fun a ha=>by rw[zaa];exact hk a ha) hi hv;rw[Nat.add_assoc];exact hc _ _ h1
theorem hd32b:(Tryz.prog.info? 23).map (·.size)=some 32:=by kernel_rfl
theorem hd16d:(Tryz.prog.info? 29).map (·.size)=some 16:=by kernel_rfl
theorem zmx(mark own:List UInt8)(A B:Option Addr)(m c d:Nat)(ks:List (List UInt8))(w:World)(h1:mark.length=16)(h2:own.length=32)(hA:RdS 32 w A m (ks.flatMap u8s))(hB:RdS 32 w B m (ks.flatMap u8s))(hk:∀k∈ks,k.length=32)(hl:ks.length=m)(hm:m≤1000000):
 Calls Tryz.prog 27 #[.agg (soC mark own A m c).toArray,.agg (soC mark own B m d).toArray] w fun e w'=>e=.returned (.bool true)∧Below w.heap.size w w':=by
 have HC1:=qh (zmw h1 h2 A m c);have HC2:=qh (zmw h1 h2 B m d);have HM1:=qh (zmv h1 (own:=own) A m c);have HM2:=qh (zmv h1 (own:=own) B m d);have HO1:=qh (zpv h1 (own:=own) A m c);have HO2:=qh (zpv h1 (own:=own) B m d);have hn16:=ne16c mark h1;have hn32:=ne32b own h2;have hne:=fun(x:List UInt8) (hx:x∈ks)=>ne32b x (hk x hx)
 have HNE:=qh hne;have I16:(Tryz.prog.info? 29).map (·.size)=some (u8s mark).length:=by rw[zaa,h1];exact hd16d
 have I32:(Tryz.prog.info? 23).map (·.size)=some (u8s own).length:=by rw[zaa,h2];exact hd32b
 have HI16:=qh I16;have HI32:=qh I32;obtain⟨C,hC⟩:=ex9 (soC mark own A m c);obtain⟨D,hD⟩:=ex9 (soC mark own B m d);rw[←hC]at HC1 HM1 HO1 ⊢;rw[←hD]at HC2 HM2 HO2 ⊢;have b1:Blk ((w.alloc (.cells C.toArray 62)).alloc (.cells D.toArray 62)) w.heap.size 62 C:=(Blk.new w _ _).alloc _;have b2:Blk ((w.alloc (.cells C.toArray 62)).alloc (.cells D.toArray 62)) (w.heap.size+1) 62 D:=Blk.new' sy rfl;have hA2:RdS 32 ((w.alloc (.cells C.toArray 62)).alloc (.cells D.toArray 62)) A m (ks.flatMap u8s):=(hA.allo _).allo _;have hB2:RdS 32 ((w.alloc (.cells C.toArray 62)).alloc (.cells D.toArray 62)) B m (ks.flatMap u8s):=(hB.allo _).allo _;have hE:Below w.heap.size w ((w.alloc (.cells C.toArray 62)).alloc (.cells D.toArray 62)):=((Below.refl _ w).alloc lr _).alloc sy _;have l1:=zal b1 29 0 (u8s mark) HM1.out _ Tryz.underlying29 rfl HI16.out;have l2:=zal b2 29 0 (u8s mark) HM2.out _ Tryz.underlying29 rfl HI16.out;have l3:=zal b1 23 16 (u8s own) HO1.out _ Tryz.underlying23 rfl HI32.out;have l4:=zal b2 23 16 (u8s own) HO2.out _ Tryz.underlying23 rfl HI32.out;have c1:((w.alloc (.cells C.toArray 62)).alloc (.cells D.toArray 62)).cell? ⟨w.heap.size,48,none⟩=some (.slice A m c):=(b1.cell 48).trans HC1.out;have c2:((w.alloc (.cells C.toArray 62)).alloc (.cells D.toArray 62)).cell? ⟨w.heap.size+1,48,none⟩=some (.slice B m d):=(b2.cell 48).trans HC2.out;have HA2:=qh hA2;have HB2:=qh hB2;have HE:=qh hE;have HL:=qh hl;have HK:=qh hk;clear hA hB hA2 hB2 hE hne I16 I32 hC hD hk hl h1 h2 b1 b2
 go_enter Tryz.func27, Tryz.ntmps27
 go_wp2_with fail
 have HE2:=HE;generalize (w.alloc (.cells C.toArray 62)).alloc (.cells D.toArray 62)=W at *
 go_loopg [5] m (fun kk q wr=>∃i:Nat,i≤m∧kk=m-i∧q=.int .i64 i∧∃nq,wr=W.drewN nq)
 case atStart=>exact⟨0,Nat.zero_le _,rfl,rfl,0,rfl⟩
 case round =>
  obtain⟨i,hi,hgk,rfl,nq,rfl⟩:=hrel;have HGK:=qh hgk;clear hgk
  by_cases hlt:i<m
  · have hlt2:(i:Int)<(m:Int):=om
    obtain⟨x,hx⟩:∃x,ks[i]? = some x:=⟨_,ge9 (by rw[HL.out];exact hlt)⟩;have hxk:=mg9 hx;obtain⟨ba,oa,rfl,hba,hra⟩:=zkp HA2.out HK.out hx om;obtain⟨bb,ob,rfl,hbb,hrb⟩:=zkp HB2.out HK.out hx om;have hI:(Tryz.prog.info? 23).map (·.size)=some (u8s x).length:=by rw[zaa,HK.out x hxk];exact hd32b
    have l5:∀n,(ldAt 23 (.pointer (some ⟨ba,oa+i*32,none⟩))).run Tryz.prog (W.drewN n)=.ok (.agg (u8s x).toArray) (W.drewN n):=fun n=>run_loadAt_mid (W.drewN n) ba (oa+i*32) 23 (u8s x) _ hra Tryz.underlying23 rfl hI
    have l6:∀n,(ldAt 23 (.pointer (some ⟨bb,ob+i*32,none⟩))).run Tryz.prog (W.drewN n)=.ok (.agg (u8s x).toArray) (W.drewN n):=fun n=>run_loadAt_mid (W.drewN n) bb (ob+i*32) 23 (u8s x) _ hrb Tryz.underlying23 rfl hI
    have hn5:=HNE.out x hxk;clear hx hxk hra hrb hI;generalize u8s x=PX at *
    go_wp2_with fail
    go_quiet (fail)
    go_wp2_with fail
    go_roundg (m-(i+1))
    case measure=>have:=HGK.out;omega
    case rel=>exact⟨i+1,by omega,rfl,by go_num,_,rfl⟩
  · have hlt2:¬(i:Int)<(m:Int):=om
    go_wp2_with fail
    go_ret;exact⟨rfl,Below.drewN' HE2.out nq⟩
end
section
attribute [local go_sem ↓] zcg zfj znj zmp zfp zb0
theorem zwy{w:World}{base n c:Nat}{e:TypeId}{A:Option Addr}{xs:List Value}(h:w.ownsRow base e 1 (.slice A n c) n xs)(hn:0<n):∃g,A=some ⟨g,0,none⟩∧base≤g∧g<w.heap.size:=by
 rcases h.2 with ⟨_,h0⟩|⟨g,cap,cur,hv,hb,hg,_⟩
 · omega
 · injection hv with hv _ _
   exact⟨g,hv,hb,(Array.getElem?_eq_some_iff.1 hg).1⟩
theorem zwl(w:World)(ty:TypeId)(a b c d:Int):Rd (w.alloc (.cells #[.int .i64 a,.int .i64 b,.int .i64 c,.int .i64 d] ty)) (some ⟨w.heap.size,0,none⟩) 4 (i64s [a,b,c,d]):=⟨rfl,fun _=>⟨w.heap.size,0,rfl,by simp,fun j u hu=>by rw[Nat.zero_add];exact((Blk.new w ty (i64s [a,b,c,d])).cell j).trans hu⟩⟩
theorem zqj{P:Program}{w:World}{fn:Func}{p q u:Tmp}{ty:TypeId}(h:fn.results=#[.tmp q,.cell p ty,.tmp u])(tmps:Array Value)(g:Nat)(t:TypeId)(cs:List Value)(hp:tmps.getD p undef=.pointer (some ⟨g,0,none⟩))
 (hB:Blk w g t cs) (d:TypeDesc) (hu:P.underlying ty=some d) (hd:d.isRow=true) (hi:(P.info? ty).map (·.size)=some cs.length):
 (results fn tmps).run P w=.ok (.tuple #[tmps.getD q undef,.agg cs.toArray,tmps.getD u undef]) w:=by
 have hp':tmps[p]?.getD undef=.pointer (some ⟨g,0,none⟩):=by rw[←hp];simp
 simp[results,h,hp',asAddr,run_loadVar_mid w g 0 ty cs d hB.range hu hd hi]
theorem buildS1(mark:List UInt8)(h1:mark.length=16)(w:World):(Instr.build 62 [(0,(.agg (u8s mark).toArray:Value))].toArray).run Tryz.prog w=.ok (.agg (soC mark (List.replicate 32 0) none 0 0).toArray) w:=by
 have e0:(u8s mark).length=16:=by rw[zaa,h1]
 refine zb2 zvSo Tryz.underlying62 (plSo _ Tryz.underlying62) ?_ w
 show Instr.fill _ _ [(0,_)]=_
 rw[zas (cs:=u8s mark) rfl (by rw[e0];rfl) (by rw[e0,zc7];omega),zSo,soC,zdl _ _ _ (by rw[e0];simp[zaa])]
 rfl
theorem eKb:ElemIs Tryz.prog 23 32 32:=ElemIs.of (z:=.agg (u8s (List.replicate 32 0)).toArray) kr (by simp[Value.cells,zaa]) om
theorem szKs(w:World):(sizeOf 60).run Tryz.prog w=.ok 1 w:=by kernel_rfl
theorem iKb:(Tryz.prog.info? 23).map (fun i=>((i.zero.map (fun z=>z.cells.size)),i.size))=some (some 32,32):=by kernel_rfl
theorem zvv{mark own:List UInt8}(h1:mark.length=16)(h2:own.length=32)(A A':Option Addr)(m c m' c':Nat):(soC mark own A m c).set 48 (.slice A' m' c')=soC mark own A' m' c':=by
 rw[soC,List.set_append_right _ _ (by rw[zaa];omega),List.set_append_right _ _ (by simp only[zaa];omega),soC]
 simp[zaa,h1,h2]
theorem zxl{o:Oper}{a:Act}{w:World}{x:Operand}{g off n c:Nat}(ho:o.op=.slice 22 x (some (.const (.int .i64 32))) (some (.const (.int .i64 64))) none)(hx:a.eval x=.slice (some ⟨g,off,none⟩) n c)(hk:64≤c):(execOp a.eval o).run Tryz.prog w=.ok (.value (.slice (some ⟨g,off+32,none⟩) 32 (c-32))) w:=by
 unfold execOp
 have he:a.eval (.const (.int .i64 32))=.int .i64 32:=rfl;have he2:a.eval (.const (.int .i64 64))=.int .i64 64:=rfl;have h1:¬c=32:=om;have h2:(64:Int)≤(c:Int):=om
 simp[ho,hx,he,he2,Instr.sliceAt,Instr.slice,Instr.sliceBounds,Instr.sliceBound,asIntOf,run_underlying Tryz.underlying22,Addr.add,h1,h2]
theorem rd_lt{w:World}{b o n:Nat}{xs:List Value}(h:Rd w (some ⟨b,o,none⟩) n xs)(hn:0<n):b<w.heap.size:=by
 obtain⟨b',o',e,hb,_⟩:=h.2 hn
 injection e with e
 injection e with e1 _
 omega
def RmP(w:World)(xs:List UInt8)(hs:List Ho)(m:Nat)(e:Ending)(w':World):Prop :=
 ((smE xs hs≠0∧e=.returned (.tuple #[.slice none 0 0,.agg zSo.toArray,.int .i64 (smE xs hs:Int)])) ∨
  (smE xs hs=0∧∃A c B d,e=.returned (.tuple #[.slice A 328 c,.agg (soC (xs.drop 64) (smOwn xs) B m d).toArray,.int .i64 0])∧328≤c∧Rd w' A 328 (u8s (smL xs hs))∧RdS 32 w' B m ((smPays xs hs).flatMap u8s)))∧Below w.heap.size w w'
theorem zqh(A H:Option Addr)(n ca m c:Nat)(xs:List UInt8)(hs:List Ho)(w:World)(hx:Rd w A n (u8s xs))(hn:n≤140737488355328)(hh:RdS 68 w H m (hs.flatMap Ho.cells))(hok:∀s∈hs,s.ok)(hl:hs.length=m)(hm:m≤1400000000000):
 Calls Tryz.prog 26 #[.slice A n ca,.slice H m c] w (RmP w xs hs m):=by
 have hc:(smLast xs).ok:=zda xs;have HXL:=qh hx.len;have HCPY:Hid (∀W,Below w.heap.size w W→Calls Tryz.prog 12 #[.slice A n ca] W fun e w'=>∃A' c',e=.returned (.slice A' n c')∧n≤c'∧w'.ownsRow W.heap.size 5 1 (.slice A' n c') n (u8s xs)∧Below W.heap.size W w'):=fun W hW=>zbs A n ca xs W (hx.below hW) hn
 have HPA:Hid (∀W,Below w.heap.size w W→Calls Tryz.prog 56 #[.agg (smLast xs).cells.toArray,.slice H m c] W fun e w'=>∃A' n' c',e=.returned (.tuple #[.slice A' n' c',.int .i64 (pathE (smLast xs) hs:Int)])∧(pathE (smLast xs) hs=0→n'=m∧RdS 20 w' A' m ((pathL (smLast xs) hs).flatMap Cm.cells))∧Below W.heap.size W w'):=fun W hW=>zqe (smLast xs) hc H m c hs W (hh.bel hW lr) hok hl om
 have HPU:Hid (∀W,Below w.heap.size w W→Calls Tryz.prog 58 #[.slice H m c] W fun e w'=>∃A' c',e=.returned (.slice A' m c')∧RdB w' A' m (hs.map Ho.pub)∧Below W.heap.size W w'):=fun W hW=>by
  refine(zki H m c hs W (hh.bel hW lr) hok hl hm).mono ?_;rintro e w' ⟨A',c',rfl,hr,hB⟩;exact⟨A',c',rfl,hr,hB⟩
 have HSC:Hid (∀W X d C c2,Rd W X 32 (u8s ((smAll xs).take 32))→32≤d→RdB W C m (hs.map Ho.pub)→Calls Tryz.prog 57 #[.slice X 32 d,.slice C m c2] W fun e w'=>∃A' n' c',e=.returned (.tuple #[.slice A' n' c',.int .i64 (scE ((smAll xs).take 32) hs:Int)])∧n'≤c'∧(scE ((smAll xs).take 32) hs=0→n'=m∧RdS 192 w' A' m ((scL ((smAll xs).take 32) hs).flatMap Sp.cells))∧Below W.heap.size W w'):=fun W X d C c2 h1 h2 hp=>zog X C 32 d m c2 _ hs W h1 h2 hp hok hl
 have HLE:Hid (∀W A3,Rd W A3 4 (i64s [(szE xs:Int),(pathE (smLast xs) hs:Int),(scE ((smAll xs).take 32) hs:Int),(idE hs:Int)])→Calls Tryz.prog 59 #[.slice A3 4 4] W fun e w'=>e=.returned (.int .i64 (smE xs hs:Int))∧W=w'):=fun W A3 h3=>by
  have h5:=zoi A3 4 4 _ W h3 om
  rwa [smE_is]at h5
 have HCL:=qh (Cm.cells_len hc);have HICM:Hid ((Tryz.prog.info? 47).map (·.size)=some cm4.length):=hd76c;have HISO:Hid ((Tryz.prog.info? 62).map (·.size)=some zSo.length):=by show _=_;rw[zc7];exact hdSo
 have HC:Hid (splice cm4 4 ((u8s ((smAll xs).drop 64)).take 16)=(smLast xs).cells):=by
  show _=_
  rw[zj1 _ (by rw[List.length_drop,zgt]),zn9]
  rfl
 have HE0:Hid (Below w.heap.size w (w.alloc (.cells zSo.toArray 62))):=(Below.refl _ w).alloc lr _;have HS0:Hid (Blk (w.alloc (.cells zSo.toArray 62)) w.heap.size 62 zSo):=Blk.new' rfl rfl;have HX:=qh hx;have HHH:=qh hh;have HOK:=qh hok;have HHL:=qh hl;clear hx hh hc hok
 go_enter Tryz.func26, Tryz.ntmps26
 go_upto_region 3 with (go_at_call 12;(refine(HCPY.out _ (by exact HE0.out)).mono ?_);rintro e w1 ⟨A1,c1,rfl,hc1,hown1,hB1⟩;have HE1:=qtr HE0 hB1;have HS1:=qbl HS0 hB1;have HO1:=qh hown1;clear hB1 hown1)
 go_cut [26] (fun v wx=>v=.bool ((n:Int) != 80)∧w1=wx)
 case first =>
  go_wp2
  go_meet
  exact⟨rfl,rfl⟩
 case rest =>
 obtain⟨rfl,rfl⟩:=hcut
 go_step
 go_cut [7,8] (fun v7 v8 wx=>v7=.int .i64 (szE xs:Int)∧(∃g d,v8=.slice (some ⟨g,0,none⟩) 80 d∧80≤d∧Hid (Rd wx (some ⟨g,0,none⟩) 80 (u8s (smAll xs))))∧Hid (Below w.heap.size w wx)∧Hid (Blk wx w.heap.size 62 zSo))
 case first =>
  by_cases hn:n=80
  · subst hn
    have e80:(((80:Nat):Int) != 80)=false:=rfl;have hl80:=HXL.out;obtain⟨g,rfl,_,_⟩:=zwy HO1.out om;have HF:Hid (smAll xs=xs∧szE xs=0):=⟨by rw[smAll,if_pos hl80],by rw[szE,if_pos hl80]⟩;clear hl80;go_wp2
    go_meet
    exact⟨by rw[HF.out.2];rfl,⟨g,c1,rfl,hc1,by rw[HF.out.1];exact Rd.of_own HO1.out⟩,HE1,HS1⟩
  · have e80:((n:Int) != 80)=true:=by rw[bne_iff_ne];omega
    have hl80:¬xs.length=80:=by rw[HXL.out];exact hn
    have HF:Hid (smAll xs=1 :: List.replicate 79 0∧szE xs=2):=⟨by rw[smAll,if_neg hl80],by rw[szE,if_neg hl80]⟩;clear hl80 hn
    go_wp2_with (at_make;refine zao rfl (.const (.int .i64 80)) (.const (.int .i64 80)) 22 rfl 5 (.int .u8 0) 1 Tryz.underlying22 iU8 rfl .i64 .i64 80 80 rr rr 80 80 rfl rfl (by decide) (by decide) (by decide) ?_;intro w2 hb2 hg2 hs2;have HE2:=qh (HE1.out.trans ((zaf hg2).mono HE1.out.size));have HS2:=qh (HS1.out.below (zaf hg2) HS1.out.lt);have HB2:=qh hb2;have c2:w2.cell? ⟨w1.heap.size,0,none⟩=some (.int .u8 0):=hb2.cell 0;have f2:=hb2.frozen 0;have hz2:w1.heap.size<w2.heap.size:=hb2.lt;clear hb2 hg2 hs2)
    go_meet
    have hS1:w.heap.size<w1.heap.size:=HS1.out.lt;have hb3:=HB2.out.set_ 0 (.int .u8 1);refine⟨by rw[HF.out.2];rfl,⟨w1.heap.size,80,rfl,by omega,?_⟩,HE2.out.setCell (by show w.heap.size≤w1.heap.size;omega) _,HS2.out.far (by show w.heap.size≠w1.heap.size;omega) _⟩;have h5:=hb3.rd 0 80 (by simp[zar]);rw[HF.out.1];exact h5
 case rest =>
 obtain⟨rfl,⟨g,d,rfl,hd,HAL⟩,HE2,HS2⟩:=hcut;obtain⟨w3,rfl⟩:=ex9 (wc);have HBD0:Hid ((smAll xs).length=80):=zgt xs
 go_upto_region 8 with (first
  | (refine zai rfl 47 [(0,.const (.int .u8 4))] rfl _ rr (.agg cm4.toArray) (zmf _) ?_)
  | (refine zab rfl 47 (.tmp 9) (.tmp 30) rfl w3.heap.size cm4 rr rr 47 zcmc (Blk.new' rfl rfl) HICM.out (by decide) rfl ?_;intro w4 hb4 ho4;have hD4:Below w3.heap.size w3 w4:=ho4.below ((Below.refl _ w3).alloc lr _) lr sy;have HE4:=qtr HE2 hD4;have HS4:=qbl HS2 hD4;have HA4:=qh (HAL.out.below hD4);have HC4:=qh hb4;have hs34:w.heap.size<w3.heap.size:=HS2.out.lt;clear hb4 ho4 hD4))
 have HA64:Hid (Rd w4.drew (some ⟨g,64,none⟩) 16 (u8s ((smAll xs).drop 64))):=by
  have h5:=(HA4.out).drop' 64 16 rfl;rw[Nat.zero_add]at h5;exact h5
 have n64:¬d=64:=om;have n32:¬d=32:=om;have d64:(64:Int)≤(d:Int):=om;have d32:(32:Int)≤(d:Int):=om
 go_region_held3 (fun _=>True) (trivial) ((refine zbx rfl (.tmp 32) (.tmp 34) 22 rfl 5 Tryz.underlying22 zcn w3.heap.size 4 16 16 rr (some ⟨g,64,none⟩) 16 (d-64) rr 47 _ (by exact HC4.out.drew) (u8s ((smAll xs).drop 64)) HA64.out (zac _) (by decide) ?_;intro w5 hb5 ho5))
 rw[HC.out]at hb5;have HD5:Hid (Below w3.heap.size w4 w5):=ho5.below (Below.refl _ _).drew lr (by have:=HC4.out.lt;show w3.heap.size≤w4.heap.size;omega);have HE5:=qh (ho5.below HE4.out.drew om HE4.out.drew.size);have HS5:=qh (ho5.blk HS4.out.drew om)
 have HA5:Hid (Rd w5 (some ⟨g,0,none⟩) 80 (u8s (smAll xs))):=by
  have h5:=HAL.out;refine ho5.rd HA4.out.drew fun ad e=>?_
  injection e with e
  subst e;obtain⟨b,off,e,hb,_⟩:=HAL.out.2 (by decide)
  injection e with e
  injection e with e1 _
  show g≠w3.heap.size
  omega
 have l5:=cm_ld hb5 HCL.out;have HK5:=qh hb5;have hs35:w.heap.size≤w5.heap.size:=HE5.out.size;clear hb5 ho5 HA64 HD5 HAL HA4 HC4 HS4 HE4 HC HICM HE2 HS2;obtain⟨CL,hCL⟩:=ex9 ((smLast xs).cells)
 have HCM:Hid (xs.length=80→(CL.drop 4).take (u8s (xs.drop 64)).length=u8s (xs.drop 64)):=fun hl=>by
  rw[hCL,smLast,if_pos hl];have h5:(u8s (xs.drop 64)).length=16:=by rw[zaa,List.length_drop,hl]
  rw[h5];exact tk (by show(u8s (xs.drop 64)).length≤16;omega)
 rw[←hCL]at HPA l5 HCL HK5;clear hCL
 go_upto_region 10 with (go_at_call 56;(refine(HPA.out _ (by exact HE5.out)).mono ?_);rintro e w6 ⟨A6,n6,c6,rfl,hr6,hB6⟩;have HE6:=qtr HE5 hB6;have HS6:=qbl HS5 hB6;have HA6:=qh (HA5.out.below hB6);have HK6:=qbl HK5 hB6;have HR6:=qh hr6;clear hB6 hr6)
 clear HPA l5 HE5 HS5 HA5 HK5
 go_region_held3 (fun _=>True) (trivial) ((first
  | (go_at_call 58;(refine(HPU.out _ (by exact HE6.out.drew)).mono ?_);rintro e w8 ⟨A8,c8,rfl,hr8,hB8⟩;have HE8:=qh (HE6.out.drew.trans (hB8.mono HE6.out.drew.size));have HS8:=qh (HS6.out.drew.below hB8 HS6.out.drew.lt);have HA8:=qh (Rd.below (w:=w6.drew) HA6.out hB8);have HK8:=qh (HK6.out.drew.below hB8 HK6.out.drew.lt);have HP8:=qh hr8;have HR8:Hid (pathE (smLast xs) hs=0→n6=m∧RdS 20 w8 A6 m ((pathL (smLast xs) hs).flatMap Cm.cells)):=fun h=>⟨(HR6.out h).1,RdS.belo (w:=w6.drew) (HR6.out h).2 hB8⟩
     have HA32:Hid (Rd w8 (some ⟨g,0,none⟩) 32 (u8s ((smAll xs).take 32))):=by
      have h5:=(HA8.out).cut (A':=some ⟨g,0,none⟩) (m:=32) (k:=0) om om (fun _ b' off' e=>by injection e with e;injection e with e1 e2;subst e1;subst e2;rfl);rw[List.drop_zero,zaz]at h5;exact h5
     clear hr8 hB8)
  | (go_at_call 57;(refine(HSC.out _ _ _ _ _ (by exact HA32.out) om (by exact HP8.out)).mono ?_);rintro e w9 ⟨A9,n9,c9,rfl,hc9,hr9,hB9⟩;have HE9:=qtr HE8 hB9;have HS9:=qbl HS8 hB9;have HA9:=qh (HA8.out.below hB9);have HK9:=qbl HK8 hB9;have HR9:Hid (pathE (smLast xs) hs=0→n6=m∧RdS 20 w9 A6 m ((pathL (smLast xs) hs).flatMap Cm.cells)):=fun h=>⟨(HR8.out h).1,RdS.belo (HR8.out h).2 hB9⟩
     have HQ9:=qh hr9
     clear hr9 hB9)))
 clear HPU HSC HE6 HS6 HA6 HR6 HE8 HS8 HA8 HR8 HP8 HA32 HK6 HK8
 go_upto_region 12 with fail
 go_cut [60] (fun v wx=>v=.bool (idB hs)∧w9=wx)
 case first =>
  by_cases hm0:m=0
  · subst hm0
    obtain rfl:hs=[]:=List.eq_nil_of_length_eq_zero hl;go_wp2
    go_meet
    exact⟨rfl,rfl⟩
  · have hmp:(0:Int)<(m:Int):=om
    obtain⟨o,ho⟩:∃o,hs[0]? = some o:=⟨_,ge9 om⟩;obtain⟨b,off,rfl,hb,hrg⟩:=zbk HHH.out HOK.out ho om;have c1:w9.cell? ⟨b,off+1,none⟩=some (.int .u64 (o.id:Int)):=(HE9.out.cell (p:=⟨b,off+1,none⟩) hb).trans (by have h5:=hrg 1 _ (Ho.at_id o);rwa [Nat.zero_mul,Nat.add_zero]at h5)
    have HIB:Hid (((o.id:Int) == 0)=idB hs):=by
     show _=_
     cases hs with
     | nil=>simp at ho
     | cons a l =>
      simp at ho
      subst ho
      show _=(a.id == 0)
      rw[Bool.eq_iff_iff]
      simp
    clear ho hrg;go_wp2
    go_meet
    exact⟨by rw[HIB.out],rfl⟩
 case rest =>
 obtain⟨rfl,rfl⟩:=hcut
 go_step
 go_cut [14] (fun v wx=>v=.int .i64 (idE hs:Int)∧w9=wx)
 case first =>
  have HIE:Hid (idE hs=if idB hs then 3 else 0):=rfl;generalize idB hs=ib at *
  cases ib
  · go_wp2
    go_meet
    exact⟨by rw[HIE.out];rfl,rfl⟩
  · go_wp2
    go_meet
    exact⟨by rw[HIE.out];rfl,rfl⟩
 case rest =>
 obtain⟨rfl,rfl⟩:=hcut
 go_upto_region 15 with (go_at_call 59;(refine(HLE.out _ _ (by exact zwl _ _ _ _ _ _)).mono ?_);rintro e w10 ⟨rfl,rfl⟩;have HE10:=qh (HE9.out.alloc HE9.out.size (.cells #[.int .i64 (szE xs:Int),.int .i64 (pathE (smLast xs) hs:Int),.int .i64 (scE ((smAll xs).take 32) hs:Int),.int .i64 (idE hs:Int)] 3));have HS10:=qh (HS9.out.alloc (.cells #[.int .i64 (szE xs:Int),.int .i64 (pathE (smLast xs) hs:Int),.int .i64 (scE ((smAll xs).take 32) hs:Int),.int .i64 (idE hs:Int)] 3));have HA10:=qh (HA9.out.alloc (.cells #[.int .i64 (szE xs:Int),.int .i64 (pathE (smLast xs) hs:Int),.int .i64 (scE ((smAll xs).take 32) hs:Int),.int .i64 (idE hs:Int)] 3)))
 by_cases he:smE xs hs=0
 · have HB910:Hid (Below w9.heap.size w9 (w9.alloc (.cells #[.int .i64 (szE xs:Int),.int .i64 (pathE (smLast xs) hs:Int),.int .i64 (scE ((smAll xs).take 32) hs:Int),.int .i64 (idE hs:Int)] 3))):=(Below.refl _ _).alloc lr _
   generalize w9.alloc (.cells #[.int .i64 (szE xs:Int),.int .i64 (pathE (smLast xs) hs:Int),.int .i64 (scE ((smAll xs).take 32) hs:Int),.int .i64 (idE hs:Int)] 3)=w10 at *;have HK10:=qh (HK9.out.below HB910.out HK9.out.lt)
   have hs3:sm3 xs hs=0:=by
    unfold smE at he
    split at he
    · rename_i h;exact absurd he h
    · rename_i h;simpa using h
   have hsc:scE (xs.take 32) hs=0:=by
    unfold smE at he
    rw[if_neg (by simp[hs3])]at he;exact he
   obtain⟨hl80,hpe,hn1,hn5,hid0⟩:=sm3_0 hs3;have hall:smAll xs=xs:=by rw[smAll,if_pos hl80]
   obtain⟨k,hk⟩:∃k,m=k+1:=⟨m-1,by omega⟩;subst hk;have hk4:k≤4:=om;have hei:((smE xs hs:Nat):Int)=0:=om;obtain⟨rfl,hr6⟩:=HR9.out hpe;rw[hall]at HQ9;obtain⟨rfl,hr9⟩:=HQ9.out hsc;obtain⟨_,hs7,hs8⟩:=zib hsc;have hc:=zda xs
   have hhl:(smH xs hs).length=288:=by
    have h5:=zfq (cs:=pathL (smLast xs) hs) (ss:=scL (xs.take 32) hs) (n:=k+1) (ze7 hc HOK.out hpe) hs8 (by rw[zcv,HHL.out]) (by rw[hs7,HHL.out]) om (k+1) lr;rw[smH,HHL.out];exact h5
   have HBD:Hid (∀W,RdS 20 W A6 (k+1) ((pathL (smLast xs) hs).flatMap Cm.cells)→RdS 192 W A9 (k+1) ((scL (xs.take 32) hs).flatMap Sp.cells)→Calls Tryz.prog 60 #[.slice A6 (k+1) c6,.slice A9 (k+1) c9] W fun e w'=>∃A' c',e=.returned (.tuple #[.slice A' 288 c',.int .i64 0])∧288≤c'∧Rd w' A' 288 (u8s (smH xs hs))∧Below W.heap.size W w'):=fun W h1 h2=>by
    rw[smH,HHL.out];refine(zqt A6 A9 k c6 c9 (pathL (smLast xs) hs) (scL (xs.take 32) hs) W h1 h2 (ze7 hc HOK.out hpe) hs8 (by rw[zcv,HHL.out]) (by rw[hs7,HHL.out]) (by rw[←HHL.out];exact zkq hpe)).mono ?_;rintro e w' ⟨A',c',rfl,hc',ho,hB⟩;exact⟨A',c',rfl,hc',Rd.of_own ho,hB⟩
   obtain⟨o,ho⟩:∃o,hs[0]? = some o:=⟨_,ge9 om⟩;obtain⟨bh,oh,rfl,hbh,hrg⟩:=zbk HHH.out HOK.out ho om
   have hio:id0 hs=o.id:=by
    cases hs with
    | nil=>simp at ho
    | cons a l=>simp at ho;subst ho;rfl
   have hol:o.id<18446744073709551616:=(HOK.out o (mg9 ho)).1;have HIL:Hid (id0 hs<18446744073709551616):=(by show _<_;rw[hio];exact hol);have HID:Hid (w.cell? ⟨bh,oh+1,none⟩=some (.int .u64 (id0 hs:Int))):=by have h5:=hrg 1 _ (Ho.at_id o);rwa [Nat.zero_mul,Nat.add_zero,←hio]at h5
   have HPT:Hid (∀W,Calls Tryz.prog 61 #[.int .i64 2,.int .i64 8,.int .u64 (id0 hs:Int)] W fun e w'=>e=.returned (.tuple #[.slice (some ⟨W.heap.size,0,none⟩) 8 8,.int .i64 0])∧Blk w' W.heap.size 5 (u8s (Sh.beBytes (id0 hs) 8))∧Below W.heap.size W w'):=fun W=>zu7 (id0 hs) W HIL.out
   have HHLN:=qh hhl;have HL80:=qh hl80;have HS7:=qh hs7;have HS8:=qh hs8;have HSE:=qh he;have HOL:Hid ((smOwn xs).length=32):=by show _=_;rw[smOwn,if_pos hl80,List.length_take,List.length_drop,hl80];rfl
   have HR6:=qh (hr6.belo HB910.out);have HT10:=qh (hr9.belo HB910.out);have HAX:Hid (Rd w10 (some ⟨g,0,none⟩) 80 (u8s xs)):=by have h5:=HA10.out;rwa [hall]at h5
   clear hr6 hr9 hs7 hs8 hhl hrg ho hio hol hc HQ9 HR9 hs3 hsc hl80 hid0 he HA10 HE9 HS9 HA9 HLE;rw[hei];clear hei;have n32:¬d=32:=om;have bhs:bh<w10.heap.size:=Nat.lt_of_lt_of_le hbh HE10.out.size;have c10:w10.cell? ⟨bh,oh+1,none⟩=some (.int .u64 (id0 hs:Int)):=(HE10.out.cell (p:=⟨bh,oh+1,none⟩) hbh).trans HID.out;have hmp:(0:Int)<(k:Int)+1:=om
   go_upto_region 18 with (go_at_call 60;(refine(HBD.out _ (by exact HR6.out) (by exact HT10.out)).mono ?_);rintro e w11 ⟨A11,c11,rfl,hc11,hr11,hB11⟩;have HE11:=qtr HE10 hB11;have HS11:=qbl HS10 hB11;have HA11:=qh (HAX.out.below hB11);have HK11:=qbl HK10 hB11;have HT11:=qh (HT10.out.belo hB11);have hs11:w.heap.size<w11.heap.size:=HS11.out.lt;have hg11:g<w11.heap.size:=rd_lt HA11.out (by decide);have c11':w11.cell? ⟨bh,oh+1,none⟩=some (.int .u64 (id0 hs:Int)):=(hB11.cell (p:=⟨bh,oh+1,none⟩) bhs).trans c10;have HH11:=qh hr11;clear hB11 hr11)
   have HMK:=qh (HCM.out HL80.out);have HIM:Hid ((Tryz.prog.info? 29).map (·.size)=some (u8s (xs.drop 64)).length):=by show _=_;rw[zaa,List.length_drop,HL80.out];exact hd16b
   have HML:Hid ((xs.drop 64).length=16):=by show _=_;rw[List.length_drop,HL80.out]
   have HBU:Hid (∀w,(Instr.build 62 [(0,(.agg (u8s (xs.drop 64)).toArray:Value))].toArray).run Tryz.prog w=.ok (.agg (soC (xs.drop 64) (List.replicate 32 0) none 0 0).toArray) w):=fun w=>buildS1 _ HML.out w
   have HIS:Hid (∀own B m c,own.length=32→(Tryz.prog.info? 62).map (·.size)=some (soC (xs.drop 64) own B m c).length):=fun own B m c h=>by rw[zd0 HML.out h];exact hdSo
   clear HCM HK10 HK9 HR6 HT10 HBD HB910 c10 bhs hmp
   go_upto_region 20 with (first
    | (go_at_call 61;(refine(HPT.out _).mono ?_);rintro e w12 ⟨rfl,hb12,hB12⟩;have HE12:=qtr HE11 hB12;have HS12:=qbl HS11 hB12;have HA12:=qh (HA11.out.below hB12);have HT12:=qh (HT11.out.belo hB12);have HK12:=qbl HK11 hB12;have HH12:=qh (HH11.out.below hB12);have HP12:=qh hb12;have l12:=zal HK12.out 29 4 (u8s (xs.drop 64)) HMK.out _ Tryz.underlying29 rfl HIM.out;clear hb12 hB12)
    | (refine zai rfl 62 [(0,.tmp 87)] rfl [(0,.agg (u8s (xs.drop 64)).toArray)] rr _ (HBU.out _) ?_)
    | (refine zab rfl 62 (.tmp 20) (.tmp 88) rfl w12.heap.size (soC (xs.drop 64) (List.replicate 32 0) none 0 0) rr rr 62 zSo (Blk.new' rfl rfl) (HIS.out _ _ _ _ sy) (zdz _ _ _ _ _) (by rw[zd0 HML.out sy,zc7]) ?_;intro w13 hb13 ho13;have hD13:Below w12.heap.size w12 w13:=ho13.below ((Below.refl _ w12).alloc lr _) lr sy;have HE13:=qtr HE12 hD13;have HS13:=qbl HS12 hD13;have HA13:=qh (HA12.out.below hD13);have HT13:=qh (HT12.out.belo hD13);have HH13:=qh (HH12.out.below hD13);have HP13:=qbl HP12 hD13;have HB13:=qh hb13;have HD13:=qh hD13;clear hb13 ho13 hD13))
   have HAO:Hid (Rd w13.drew (some ⟨g,32,none⟩) 32 (u8s (smOwn xs))):=by
    have h5:=(HA13.out).cut (A':=some ⟨g,0+32,none⟩) (m:=64) (k:=32) om om (fun _ b' off' e=>by injection e with e;injection e with e1 e2;subst e1;subst e2;rfl);rw[Nat.zero_add,List.drop_take,zbd,zaz,show smOwn xs=(xs.drop 32).take 32 by rw[smOwn,if_pos HL80.out]]at *;exact h5
   have HSPO:Hid (splice (soC (xs.drop 64) (List.replicate 32 0) none 0 0) 16 ((u8s (smOwn xs)).take 32)=soC (xs.drop 64) (smOwn xs) none 0 0):=by
    show _=_
    rw[tk (by rw[zaa,HOL.out];exact lr),soC,zc5 _ (u8s (List.replicate 32 0)) _ (u8s (smOwn xs)) 16 (by rw[zaa,HML.out]) (by rw[zaa,zaa,HOL.out];rfl),soC]
   have hs10:w.heap.size<w12.heap.size:=HS12.out.lt
   go_region_held3 (fun _=>True) (trivial) ((refine zbx rfl (.tmp 90) (.tmp 92) 22 rfl 5 Tryz.underlying22 zcn w12.heap.size 16 32 32 rr (some ⟨g,32,none⟩) 32 (d-32) rr 62 _ (by exact HB13.out.drew) (u8s (smOwn xs)) HAO.out (zac _) (by rw[zd0 HML.out sy];decide) ?_;intro w14 hb14 ho14))
   rw[HSPO.out]at hb14;generalize goInt ((List.take 32 (u8s (smOwn xs))).length:Int)=v93 at *;have HB14:=qh hb14;have hD14:Below w12.heap.size w13 w14:=ho14.below (Below.refl _ _).drew lr (by have:=HB13.out.lt;show w12.heap.size≤w13.heap.size;omega);have HD14:Hid (Below w12.heap.size w12 w14):=HD13.out.trans hD14;have hs12:w12.heap.size<w14.heap.size:=hb14.lt
   have HPS:Hid (∀i s,(scL (xs.take 32) hs)[i]? = some s→((smPays xs hs).take i).flatMap u8s++u8s s.pay=((smPays xs hs).take (i+1)).flatMap u8s):=fun i s h=>by
    have hpi:(smPays xs hs)[i]? = some s.pay:=by rw[smPays,List.getElem?_map,h];rfl
    rw[List.take_add_one,hpi]
    simp
   have HPL:Hid ((smPays xs hs).length=k+1):=by show _=_;rw[smPays,List.length_map,HS7.out,HHL.out]
   obtain⟨b9,off9,rfl,_,_⟩:=HT12.out.2 om;have HB0:Hid (Blk w14 w12.heap.size 62 (soC (xs.drop 64) (smOwn xs) none 0 0)):=HB14;have HO0:Hid (w14.ownsRow (w12.heap.size+1) 23 32 (.slice none 0 0) 0 (((smPays xs hs).take 0).flatMap u8s)):=⟨rfl,.inl ⟨rfl,rfl⟩⟩;clear hb14 ho14 hD14 HB14 HAO HSPO HBU HPT HS11 HS13 HA13 HT13 HH13 HP13 HE13 HE11 HA11 HT11 HH11 HK11 HK12 l12 c11' HIM HMK
   go_wp2_with fail
   go_loopg [21] (k+1) (fun kk q wr=>∃(i:Nat) (B:Option Addr) (dd:Nat),i≤k+1∧kk=k+1-i∧q=.int .i64 i∧Hid (Blk wr w12.heap.size 62 (soC (xs.drop 64) (smOwn xs) B i dd))∧Hid (wr.ownsRow (w12.heap.size+1) 23 32 (.slice B i dd) i (((smPays xs hs).take i).flatMap u8s))∧Hid (Below w12.heap.size w12 wr))
   case atStart=>exact⟨0,none,0,by omega,rfl,rfl,HB0,HO0,HD14⟩
   case round =>
    clear HB0 HO0 HD14;obtain⟨i,B,dd,hi,hgk,rfl,HB,HO,HD⟩:=hrel;have HGK:=qh hgk;clear hgk
    by_cases hlt:i<k+1
    · have hlt2:(i:Int)<(k:Int)+1:=om
      obtain⟨s,hsi⟩:∃s,(scL (xs.take 32) hs)[i]? = some s:=⟨_,ge9 (by rw[HS7.out,HHL.out];exact hlt)⟩;have hsk:=HS8.out s (mg9 hsi);have HRP:Hid (∀W,Below w12.heap.size w12 W→W.rangeAt b9 (off9+i*192+64) (u8s s.pay)):=fun W hW=>(zdy (HT12.out.belo hW) HS8.out hsi om 64 s.pay (Sp.pay_at hsk)).2
      have HPY:Hid ((u8s s.pay).length=32):=(zaa _).trans hsk.2.2.1;have HTK:=qh (HPS.out i s hsi);have HIP:Hid ((Tryz.prog.info? 23).map (·.size)=some (u8s s.pay).length):=by show _=_;rw[HPY.out];exact hd24
      have HIK:Hid ((Tryz.prog.info? 23).map (fun i=>((i.zero.map (fun z=>z.cells.size)),i.size))=some (some (u8s s.pay).length,(u8s s.pay).length)):=by show _=_;rw[HPY.out];exact iKb
      have HP1:Hid (0<(u8s s.pay).length∧(u8s s.pay).length≤16777216):=by show _∧_;rw[HPY.out];omega
      have HV:Hid (Blk { wr with drawn:=wr.drawn+1 } w12.heap.size 62 (soC (xs.drop 64) (smOwn xs) B i dd)∧Below w12.heap.size w12 { wr with drawn:=wr.drawn+1 }):=⟨HB.out.drew,HD.out.drew⟩;have HBN:Hid (i*32+1*32≤140737488355328∧i+1≤140737488355328∧w12.heap.size+1≤wr.heap.size):=⟨by omega,by omega,HB.out.lt⟩;have HBP:=qh (zac s.pay);have HGL:Hid (∀ {W:World},W.rangeAt b9 (off9+i*192+64) (u8s s.pay)→(Instr.loadAt 23 (.pointer (some ⟨b9,off9+i*192+64,none⟩))).run Tryz.prog W=.ok (.agg (u8s s.pay).toArray) W):=fun h=>run_loadAt_mid _ b9 (off9+i*192+64) 23 (u8s s.pay) _ h Tryz.underlying23 rfl HIP.out
      clear hsi hsk;generalize u8s s.pay=PY at *
      go_upto_region 24 with fail
      refine kgo kr 11 (fun W=>Blk W w12.heap.size 62 (soC (xs.drop 64) (smOwn xs) B i dd)∧Below w12.heap.size w12 W) HV.out (fun _ _ _ _ _ h=>h) ?_;refine kp 0 (.pointer (some ⟨w12.heap.size,48,none⟩)) rfl kr (fun _=>kr) ?_;refine kl 1 (.slice B i dd) rfl kr (fun w' hw'=>za5 (t:=60) (x:=.tmp 100) rr kr agKb ((hw'.1.cell 48).trans (zmw HML.out HOL.out B i dd))) ?_;refine kp 2 (.slice (some ⟨b9,off9,none⟩) (k+1) c9) rfl kr (fun _=>kr) ?_;refine kp 3 (.int .i64 (i:Int)) rfl kr (fun _=>kr) ?_;refine kp 4 (.pointer (some ⟨b9,off9+i*192,none⟩)) rfl kr (fun _=>zbn (t:=124) (e:=27) (x:=.tmp 102) (y:=.tmp 103) (n:=k+1) (c:=c9) (p:=i) (sz:=192) rr kr kr hlt Tryz.underlying124 szRs) ?_;refine kp 5 (.pointer (some ⟨b9,off9+i*192,none⟩)) rfl kr (fun _=>kr) ?_;refine kp 6 (.pointer (some ⟨b9,off9+i*192+64,none⟩)) rfl kr (fun _=>kr) ?_;refine kl 7 (.agg PY.toArray) rfl kr (fun w' hw'=>zad (x:=.tmp 106) rr kr (HGL.out (HRP.out w' hw'.2))) ?_;intro q8 q9;clear q8 q9;refine AnyK.main 8 rr kr rfl ?_;intro K hK;refine zj9 60 23 (.tmp 107) rfl PY kr Tryz.underlying60 HIK.out HP1.out.1 HP1.out.2 ?_;refine hK _ _ ⟨fun _=>⟨HV.out.1.alloc _,HV.out.2.alloc HV.out.2.size _⟩,?_⟩;refine AnyK.main 9 rr kr rfl ?_;intro K2 hK2;refine zgj (.tmp 101) (.tmp 108) 60 rfl (w12.heap.size+1) 23 32 32 Tryz.underlying60 eKb (.slice B i dd) i (((smPays xs hs).take i).flatMap u8s) kr (HO.out.alloc _) (some ⟨wr.heap.size,0,none⟩) 1 1 PY kr (RdS.new _ _ PY 32 HPY.out) HBP.out HBN.out.1 HBN.out.2.1 (Nat.le_trans HBN.out.2.2 sy) ?_;intro A4 c4 w4 hown4 hc4 hg4 hat4;rw[HTK.out]at hown4;have hne4:Value.ownBlock (.slice A4 (i+1) c4)≠some w12.heap.size:=fun e=>by have:=(hown4.lt _ e).1;omega
      have hB4:Blk w4 w12.heap.size 62 (soC (xs.drop 64) (smOwn xs) B i dd):=(HB.out.drew.alloc _).grown hg4 (fun e=>by have:=(HO.out.lt _ e.symm).1;omega);have HD4:Hid (Below w12.heap.size w12 w4):=(HD.out.drew.alloc HD.out.drew.size _).grown hg4 (Nat.le_trans HD.out.size sy) (fun q hq=>by have:=(HO.out.lt _ hq).1;omega);refine hK2 _ _ ⟨fun _=>⟨hB4,HD4.out⟩,?_⟩;have HO4:=qh (hown4.kept (w':=w4.setCell ⟨w12.heap.size,48,none⟩ (.slice A4 (i+1) c4)) (row:=some w12.heap.size) ⟨rfl,rfl,rfl,by simp[World.setCell],fun q _ hq=>Below.heap_setCell w4 ⟨w12.heap.size,48,none⟩ _ q (fun e=>hq (by rw[e]))⟩ (.inr hne4));refine AnyK.pure 10 (v:=.pointer (some ⟨w12.heap.size,48,none⟩)) rfl kr (fun _ _ _ h=>h) rfl (fun _=>kr) (fun _=>⟨hB4,HD4.out⟩) ?_;refine AnyK.store 11 (d:=none) (op:=.store 60 (.tmp 110) (.tmp 109)) kr (fun o ho=>zsb (p:=⟨w12.heap.size,48,none⟩) (v:=.slice A4 (i+1) c4) ho kr kr rfl szKs ((hB4.cell 48).trans (zmw HML.out HOL.out B i dd)) (hB4.frozen 48)) kr (fun h=>(by cases h)) ?_;refine AnyK.done kr ?_
      have HB5:Hid (Blk (w4.setCell ⟨w12.heap.size,48,none⟩ (.slice A4 (i+1) c4)) w12.heap.size 62 (soC (xs.drop 64) (smOwn xs) A4 (i+1) c4)):=by
       have h5:=hB4.set_ 48 (.slice A4 (i+1) c4);rw[zvv HML.out HOL.out]at h5;exact h5
      have HD5:=qh (HD4.out.setCell (p:=⟨w12.heap.size,48,none⟩) lr (.slice A4 (i+1) c4));generalize w4.setCell ⟨w12.heap.size,48,none⟩ (.slice A4 (i+1) c4)=w5 at *;clear hown4 hg4 hat4 hB4 HD4 hne4 HV HGL HRP HBP HIP HIK HP1 HPY HTK HBN hK hK2
      go_wp2_with fail
      go_roundg (k+1-(i+1))
      case measure=>have:=HGK.out;omega
      case rel=>exact⟨i+1,A4,c4,by omega,rfl,by go_num,HB5,HO4,HD5⟩
    · obtain rfl:i=k+1:=om
      have hlt2:¬(((k+1:Nat):Int)<(k:Int)+1):=om;rw[show((k+1:Nat):Int)=(k:Int)+1 from rfl]
      have HRB:Hid (RdS 32 wr B (k+1) ((smPays xs hs).flatMap u8s)):=by
       have h5:=HO.out;rw[tk (by rw[HPL.out];exact lr)]at h5;exact RdS.ofOwn2 h5
      have hpl:w11.heap.size<w12.heap.size:=HP12.out.lt;have hwr:w12.heap.size<wr.heap.size:=HB.out.lt;have HSB:Hid (∀W,Blk W w12.heap.size 62 (soC (xs.drop 64) (smOwn xs) B (k+1) dd)→(Instr.loadAt 62 (.pointer (some ⟨w12.heap.size,0,none⟩))).run Tryz.prog W=.ok (.agg (soC (xs.drop 64) (smOwn xs) B (k+1) dd).toArray) W):=fun W h=>zal h 62 0 _ (by rw[List.drop_zero,List.take_length]) _ Tryz.underlying62 rfl (HIS.out _ _ _ _ HOL.out)
      have HZS:=qh (HIS.out (smOwn xs) B (k+1) dd HOL.out);have HZL:Hid ((soC (xs.drop 64) (smOwn xs) B (k+1) dd).length=zSo.length):=by show _=_;rw[zd0 HML.out HOL.out,zc7]
      have HF0:Hid (wr.drew.ownsRow (w.heap.size+1) 5 1 (.slice (some ⟨w11.heap.size,0,none⟩) 8 8) 8 (u8s (Sh.beBytes (id0 hs) 8))):=by
       have h5:=zbi (base:=w.heap.size+1) ((HP12.out.below HD.out HP12.out.lt).drew) hs11 8 8 1 lr (by rw[zaa,Sh.beBytes_len]) (by decide)
       rwa [tk (by rw[zaa,Sh.beBytes_len];exact lr)]at h5
      have HH0:Hid (Rd wr.drew A11 288 (u8s (smH xs hs))):=(HH12.out.below HD.out).drew
      have HA0:Hid (Rd wr.drew (some ⟨g,0+32,none⟩) 32 (u8s (smOwn xs))):=by
       have h5:=((HA12.out.below HD.out).drew).cut (A':=some ⟨g,0+32,none⟩) (m:=64) (k:=32) om om (fun _ b' off' e=>by injection e with e;injection e with e1 e2;subst e1;subst e2;rfl);rw[List.drop_take,zbd,zaz]at h5;rw[smOwn,if_pos HL80.out];exact h5
      have HZ0:Hid (Blk wr.drew w.heap.size 62 zSo):=(HS12.out.below HD.out HS12.out.lt).drew;have HE0:Hid (Below w.heap.size w wr.drew):=(HE12.out.trans (HD.out.mono HE12.out.size)).drew
      have HO0:Hid (wr.drew.ownsRow (w12.heap.size+1) 23 32 (.slice B (k+1) dd) (k+1) ((smPays xs hs).flatMap u8s)):=by
       have h5:=HO.out;rw[tk (by rw[HPL.out];exact lr)]at h5;exact h5
      have HB0:Hid (Blk wr.drew w12.heap.size 62 (soC (xs.drop 64) (smOwn xs) B (k+1) dd)):=HB.out.drew;have HLF:Hid (u8s (Sh.beBytes (id0 hs) 8)++u8s (smH xs hs)++u8s (smOwn xs)=u8s (smL xs hs)):=by show _=_;rw[←zae,←zae,smL,as9]
      have HFN:Hid (∀A6 c6 W,328≤c6→Rd W A6 328 (u8s (smL xs hs))→RdS 32 W B (k+1) ((smPays xs hs).flatMap u8s)→Below w.heap.size w W→RmP w xs hs (k+1) (.returned (.tuple #[.slice A6 328 c6,.agg (soC (xs.drop 64) (smOwn xs) B (k+1) dd).toArray,.int .i64 0])) W):=fun A6 c6 W h1 h2 h3 h4=>⟨.inr ⟨HSE.out,A6,c6,B,dd,rfl,h1,h2,h3⟩,h4⟩
      have hwd:wr.drew.heap.size=wr.heap.size:=rfl;have HWD:=qh hwd;have HD64:Hid (64≤d):=(by show _≤_;omega);have HBS1:Hid (w.heap.size+1≤wr.drew.heap.size):=(by show _≤wr.heap.size;omega);clear hwd HRB HB HO HD HH12 HA12 HS12 HE12 HP12 HT12
      go_upto_region 25 with fail
      refine kgo kr 8 (fun W=>Blk W w12.heap.size 62 (soC (xs.drop 64) (smOwn xs) B (k+1) dd)) HB0.out (fun _ _ _ _ _ h=>h) ?_;refine kp 0 (.slice (some ⟨w11.heap.size,0,none⟩) 8 8) rfl kr (fun _=>kr) ?_;refine kp 1 (.slice A11 288 c11) rfl kr (fun _=>kr) ?_;refine kp 3 (.slice (some ⟨g,0,none⟩) 80 d) rfl kr (fun _=>kr) ?_;refine kp 4 (.slice (some ⟨g,0+32,none⟩) 32 (d-32)) rfl kr (fun _=>zxl (x:=.tmp 114) (n:=80) rr kr HD64.out) ?_;refine kl 6 (.agg (soC (xs.drop 64) (smOwn xs) B (k+1) dd).toArray) rfl kr (fun w' hw'=>zad (x:=.tmp 20) rr kr (HSB.out w' hw')) ?_;intro q8 q9;clear q8 q9;refine AnyK.main 2 rr kr rfl ?_;intro K hK;refine zgj (.tmp 111) (.tmp 112) 22 rfl (w.heap.size+1) 5 1 1 Tryz.underlying22 eU8 (.slice (some ⟨w11.heap.size,0,none⟩) 8 8) 8 (u8s (Sh.beBytes (id0 hs) 8)) kr (by exact HF0.out) A11 288 c11 (u8s (smH xs hs)) kr (by exact HH0.out.toS) (zac _) (by decide) (by decide) (by exact HBS1.out) ?_;intro A5 c5 w5 hown5 hc5 hg5 hat5;have hg5':wr.drew.grownBy w5 (some w11.heap.size):=hg5;have HGS5:Hid (wr.drew.heap.size≤w5.heap.size):=hg5.size;have HB5:=qh (HB0.out.grown hg5' (fun e=>by injection e with e;omega));have HZ5:=qh (HZ0.out.grown hg5' (fun e=>by injection e with e;omega));have HO5:=qh (HO0.out.kept hg5' (.inr fun e=>by have:=(HO0.out.lt _ e).1;omega));have HA5:=qh (HA0.out.grown0 hg5' (fun _ ad e e2=>by injection e with e;subst e;injection e2 with e2;have e3:w11.heap.size=g:=e2;omega));have HE5:=qh (HE0.out.grown hg5' HE0.out.size (fun q hq=>by injection hq with hq;omega))
      have hat:∀q,Value.ownBlock (.slice A5 (8+288) c5)=some q→q=w11.heap.size∨q=wr.heap.size:=fun q hq=>by
       rcases hat5 with h5|h5
       · rw[h5]at hq;injection hq with hq;exact .inl hq.symm
       · rw[h5]at hq;injection hq with hq;exact .inr hq.symm
      have HAT:=qh hat;have HW5:=qh hown5;clear hown5 hg5 hat5 hat hg5';refine hK _ _ ⟨fun _=>HB5.out,?_⟩;refine AnyK.main 5 rr kr rfl ?_;intro K2 hK2;refine zgj (.tmp 113) (.tmp 115) 22 rfl (w.heap.size+1) 5 1 1 Tryz.underlying22 eU8 (.slice A5 (8+288) c5) (8+288) (u8s (Sh.beBytes (id0 hs) 8)++u8s (smH xs hs)) kr (by exact HW5.out) (some ⟨g,0+32,none⟩) 32 (d-32) (u8s (smOwn xs)) kr (by exact HA5.out.toS) (zac _) (by decide) (by decide) (by exact Nat.le_trans HBS1.out HGS5.out) ?_;intro A6 c6 w6 hown6 hc6 hg6 hat6;rw[HLF.out]at hown6;have HB6:=qh (HB5.out.grown hg6 (fun e=>by rcases HAT.out _ e.symm with h|h <;> omega));have HZ6:=qh (HZ5.out.grown hg6 (fun e=>by rcases HAT.out _ e.symm with h|h <;> omega));have HE6:=qh (HE5.out.grown hg6 HE5.out.size (fun q hq=>by rcases HAT.out _ hq with h|h <;> omega))
      have HO6:=qh (HO5.out.kept hg6 (.inr fun e=>by
       obtain⟨q,hq⟩:∃q,Value.ownBlock (.slice B (k+1) dd)=some q:=by
        cases hv:Value.ownBlock (.slice B (k+1) dd)with
        | none => rcases HO0.out.2 with ⟨_,h0⟩|⟨q,_,_,hv2,_⟩
                  · omega
                  · rw[hv2]at hv;cases hv
        | some q=>exact⟨q,rfl⟩
       have h1:=HO0.out.lt q hq;have h2:=HWD.out
       rcases HAT.out q (by rw[←e,hq])with h|h <;> omega))
      have HW6:=qh (Rd.of_own hown6);have HL6:=qh hown6.lt;clear hown6 hg6 hat6;refine hK2 _ _ ⟨fun _=>HB6.out,?_⟩;refine AnyK.val 7 (v:=.slice A6 328 c6) rr kr rfl kr (fun _=>HB6.out) ?_;refine AnyK.storeAll 8 w.heap.size (soC (xs.drop 64) (smOwn xs) B (k+1) dd) 62 zSo rr rfl rfl rr kr kr kr HZ6.out HZS.out (zdz _ _ _ _ _) HZL.out (fun _ _ _ h=>(by cases h)) ?_;intro w7 hb7 ho7;have HB7:=qh hb7;have HE7:=qh (ho7.below HE6.out lr HE6.out.size)
      have HRD:Hid (Rd w7 A6 328 (u8s (smL xs hs))∧RdS 32 w7 B (k+1) ((smPays xs hs).flatMap u8s)) :=
       ⟨ho7.rd HW6.out fun ad e=>by
        have h5:=(HL6.out ad.block (by rw[e];rfl)).1
        omega,RdS.ofOwn2 (HO6.out.kept ho7.grown (.inr fun e=>by have:=(HO6.out.lt _ e).1;omega))⟩
      refine AnyK.val 9 (v:=.int .i64 0) rr kr rfl kr (fun h=>(by cases h)) ?_;refine AnyK.done kr ?_;clear hb7 ho7 hK hK2;go_wp2;exact bodyPost_ret (zqj (p:=5) (q:=4) (u:=6) (ty:=62) rfl _ w.heap.size _ (soC (xs.drop 64) (smOwn xs) B (k+1) dd) kr HB7.out _ Tryz.underlying62 rfl HZS.out) rfl (HFN.out _ _ _ hc6 HRD.out.1 HRD.out.2 HE7.out)
 · have hei:¬((smE xs hs:Nat):Int)=0:=om
   have hfin:∀W,Below w.heap.size w W→RmP w xs hs m (.returned (.tuple #[.slice none 0 0,.agg zSo.toArray,.int .i64 (smE xs hs:Int)])) W:=fun W h=>⟨.inl ⟨he,rfl⟩,h⟩
   have HFN:=qh hfin;clear hfin he HQ9 HR9;generalize smE xs hs=SE at *
   go_wp2_with (first
    | (refine zai rfl 62 [] rfl [] rr _ (bldSo _) ?_)
    | (refine zab rfl 62 (.tmp 5) (.tmp 69) rfl w.heap.size zSo rr rr 62 zSo (by exact HS10.out) HISO.out (zdz _ _ _ _ _) rfl ?_;intro w11 hb11 ho11))
   have hB11:=ho11.below HE10.out lr HE10.out.size;exact bodyPost_ret (zqj (p:=5) (q:=4) (u:=6) (ty:=62) rfl _ w.heap.size _ zSo kr hb11 _ Tryz.underlying62 rfl HISO.out) rfl (HFN.out _ hB11)
end
end Go.Proofs.YtpgpaenloaphaaaGreat
