/- Part of the proof. -/
import Derived.Test.YtadopcjppijgiaaGreatSkp36
set_option linter.all false
set_option maxRecDepth 100000
set_option maxHeartbeats 0
namespace Go.Proofs.YtadopcjppijgiaaGreat
open Go.RowKit
section
theorem zof(v:Value):Instr.loadAt 37 v=ldAt 37 v:=rfl
theorem znl(p v:Value):Instr.storeAt 37 p v=stAt 37 p v:=rfl
attribute [local go_sem ↓] zi7 zih zht zg0 zch zfs zof znl zfx zb0
def soC(mark own:List UInt8)(A:Option Addr)(m c:Nat):List Value:=u8s mark++(u8s own++[.slice A m c])
def zSo:List Value:=soC (List.replicate 16 0) (List.replicate 32 0) none 0 0
theorem hdSo:(Tryz.prog.info? 37).map (·.size)=some 49:=by kernel_rfl
theorem zdr{mark own:List UInt8}(h1:mark.length=16)(h2:own.length=32)(A:Option Addr)(m c:Nat):(soC mark own A m c).length=49:=by simp[soC,zaa,h1,h2]
theorem zd5(mark own:List UInt8)(A:Option Addr)(m c:Nat):∀v∈soC mark own A m c,v.oneCell'=true:=by
 intro v hv;simp only[soC,List.mem_append,List.mem_singleton]at hv
 rcases hv with hv|hv|rfl
 · exact zac _ v hv
 · exact zac _ v hv
 · rfl
theorem zc0:zSo.length=49:=zdr sy sy _ _ _
theorem bldSo(w:World):(Instr.build 37 #[]).run Tryz.prog w=.ok (.agg zSo.toArray) w:=by kernel_rfl
def cm4:List Value:=(⟨4,0,0,0,List.replicate 16 0⟩:Cm).cells
theorem znc(w:World):(Instr.build 63 #[(0,.int .u8 4)]).run Tryz.prog w=.ok (.agg cm4.toArray) w:=by kernel_rfl
theorem zkn(m:List UInt8)(h:m.length=16):splice cm4 4 ((u8s m).take 16)=(⟨4,0,0,0,m⟩:Cm).cells:=by
 rw[tk (by rw[zaa,h];exact lr)]
 simp[cm4,Cm.cells,splice,zaa,h]
structure Mk5(w0 w:World)(sc own:List UInt8)(cs:List Value):Prop where
 blk:Blk w w0.heap.size 34 z37
 sto:Blk w (w0.heap.size+1) 37 zSo
 sca:Blk w (w0.heap.size+2) 27 (u8s sc)
 own:Blk w (w0.heap.size+3) 27 (u8s own)
 cmd:Blk w (w0.heap.size+4) 63 cs
 bel:Below w0.heap.size w0 w
theorem Mk5.below{w0 w w':World}{sc own:List UInt8}{cs:List Value}(h:Mk5 w0 w sc own cs)(hb:Below w.heap.size w w'):Mk5 w0 w' sc own cs :=
 ⟨h.blk.below hb h.blk.lt,h.sto.below hb h.sto.lt,h.sca.below hb h.sca.lt,h.own.below hb h.own.lt,h.cmd.below hb h.cmd.lt,h.bel.trans (hb.mono h.bel.size)⟩
theorem Mk5.alloc{w0 w:World}{sc own:List UInt8}{cs:List Value}(h:Mk5 w0 w sc own cs)(o:Obj):Mk5 w0 (w.alloc o) sc own cs:=h.below ((Below.refl _ _).alloc lr o)
theorem Mk5.drew{w0 w:World}{sc own:List UInt8}{cs:List Value}(h:Mk5 w0 w sc own cs):Mk5 w0 w.drew sc own cs:=h.below (Below.refl _ _).drew
theorem Mk5.first{w w2:World}(ho:Only (((((w.alloc (.cells Tryz.zeroCells34 34)).alloc (.cells zSo.toArray 37)).alloc (.cells (u8s (List.replicate 32 0)).toArray 27)).alloc (.cells (u8s (List.replicate 32 0)).toArray 27)).alloc (.cells zcmc.toArray 63)) w2 (w.heap.size+1+1+1+1))
 (hb:Blk w2 (w.heap.size+1+1+1+1) 63 cm4):Mk5 w w2 (List.replicate 32 0) (List.replicate 32 0) cm4 :=
 ⟨ho.blk (((((Blk.new' rfl zc37).alloc _).alloc _).alloc _).alloc _) om,ho.blk ((((Blk.new' sy rfl).alloc _).alloc _).alloc _) om,ho.blk (((Blk.new' sy rfl).alloc _).alloc _) om,ho.blk ((Blk.new' sy rfl).alloc _) om,hb,
  ho.below ((((((Below.refl _ w).alloc lr _).alloc sy _).alloc (by simp;omega) _).alloc (by simp;omega) _).alloc (by simp;omega) _) om (by simp;omega)⟩
theorem Mk5.sca'{w0 w w':World}{sc own r:List UInt8}{cs:List Value}(h:Mk5 w0 w sc own cs)(ho:Only w w' (w0.heap.size+2))(hb:Blk w' (w0.heap.size+2) 27 (u8s r)):Mk5 w0 w' r own cs :=
 ⟨ho.blk h.blk om,ho.blk h.sto om,hb,ho.blk h.own om,ho.blk h.cmd om,ho.below h.bel om h.bel.size⟩
theorem Mk5.own'{w0 w w':World}{sc own r:List UInt8}{cs:List Value}(h:Mk5 w0 w sc own cs)(ho:Only w w' (w0.heap.size+3))(hb:Blk w' (w0.heap.size+3) 27 (u8s r)):Mk5 w0 w' sc r cs :=
 ⟨ho.blk h.blk om,ho.blk h.sto om,ho.blk h.sca om,hb,ho.blk h.cmd om,ho.below h.bel om h.bel.size⟩
theorem Mk5.cmd'{w0 w w':World}{sc own:List UInt8}{cs r:List Value}(h:Mk5 w0 w sc own cs)(ho:Only w w' (w0.heap.size+4))(hb:Blk w' (w0.heap.size+4) 63 r):Mk5 w0 w' sc own r :=
 ⟨ho.blk h.blk om,ho.blk h.sto om,ho.blk h.sca om,ho.blk h.own om,hb,ho.below h.bel om h.bel.size⟩
theorem Rd.drop'{w:World}{b off n:Nat}{l:List UInt8}(h:Rd w (some ⟨b,off,none⟩) n (u8s l))(k m:Nat)(hm:k+m=n):Rd w (some ⟨b,off+k,none⟩) m (u8s (l.drop k)):=by
 have h5:=h.cut (A':=some ⟨b,off+k,none⟩) (m:=n) (k:=k) lr om (fun _ b' off' e=>by injection e with e;injection e with e1 e2;subst e1;subst e2;rfl);have hl:=h.len;rw[show n-k=m by omega,tk (by rw[zaa,hl];exact lr),za9]at h5;exact h5
theorem zmf{P:Program}{w:World}{fn:Func}{p p2 u:Tmp}{ty ty2:TypeId}(h:fn.results=#[.cell p ty,.cell p2 ty2,.tmp u])(r:Array Value)(g g2:Nat)(t t2:TypeId)(cs A:List Value)(hp:r.getD p undef=.pointer (some ⟨g,0,none⟩))(G:r.getD p2 undef=.pointer (some ⟨g2,0,none⟩))
 (hB:Blk w g t cs) (hB2:Blk w g2 t2 A) (d d2:TypeDesc) (hu:P.underlying ty=some d) (hd:d.isRow=true) (hi:(P.info? ty).map (·.size)=some cs.length) (hu2:P.underlying ty2=some d2) (hd2:d2.isRow=true) (hi2:(P.info? ty2).map (·.size)=some A.length):
 (results fn r).run P w=.ok (.tuple #[.agg cs.toArray,.agg A.toArray,r.getD u undef]) w:=by
 have E:r[p]?.getD undef=.pointer (some ⟨g,0,none⟩):=by rw[←hp];simp
 have D:r[p2]?.getD undef=.pointer (some ⟨g2,0,none⟩):=by rw[←G];simp
 simp[results,h,E,D,asAddr,run_loadVar_mid w g 0 ty cs d hB.range hu hd hi,run_loadVar_mid w g2 0 ty2 A d2 hB2.range hu2 hd2 hi2]
theorem zt7(A H:Option Addr)(n ca m c:Nat)(xs:List UInt8)(hs:List Ho)(w:World)(hx:Rd w A n (u8s xs))(d6:n≤ca)(hh:RdS 68 w H m (hs.flatMap Ho.cells))(a1:∀s∈hs,s.ok)(hl:hs.length=m)(hm:m≤1400000000000)(he:sm3 xs hs≠0):
 Calls Tryz.prog 6 #[.slice A n ca,.slice H m c] w fun e w'=>e=.returned (.tuple #[.agg z37.toArray,.agg zSo.toArray,.int .i64 (sm3 xs hs:Int)])∧Below w.heap.size w w':=by
 have HR:=qh hx;have J:xs.length=n:=hx.len;have Y:=qh J
 have d5:Hid (∀W,Below w.heap.size w W→Calls Tryz.prog 18 #[.agg (smLast xs).cells.toArray,.slice H m c] W fun e w'=>∃A' n',e=.returned (.tuple #[.slice A' n' n',.int .i64 (pathE (smLast xs) hs:Int)])∧Below W.heap.size W w'):=fun W hW=>by
  refine(zux (smLast xs) (zdb xs) H m c hs W (hh.bel hW lr) a1 hl om).mono ?_;rintro e w' ⟨A',n',rfl,_,hB⟩;exact⟨A',n',rfl,hB⟩
 have c9:Hid (∀W A3,Rd W A3 3 (i64s [(szE xs:Int),(idE hs:Int),(pathE (smLast xs) hs:Int)])→Calls Tryz.prog 19 #[.slice A3 3 3] W fun e w'=>e=.returned (.int .i64 (sm3 xs hs:Int))∧W=w'):=fun W A3 h3=>by
  have h5:=zls A3 3 3 _ W h3 om
  rwa [zlt]at h5
 have d3:=qh (Cm.cells_len (zdb xs));have V:Hid ((Tryz.prog.info? 34).map (·.size)=some z37.length):=by show _=_;rw[zdq];exact hd37
 have X:Hid ((Tryz.prog.info? 37).map (·.size)=some zSo.length):=by show _=_;rw[zc0];exact hdSo
 have U:Hid ((Tryz.prog.info? 63).map (·.size)=some cm4.length):=hd76c;generalize sm3 xs hs=LE at *
 go_enter Tryz.func6, Tryz.ntmps6
 go_upto_region 4 with (first
  | (refine zai rfl 63 [(0,.const (.int .u8 4))] rfl _ rr (.agg cm4.toArray) (znc _) ?_)
  | (refine zab rfl 63 (.tmp 9) (.tmp 21) rfl (w.heap.size+1+1+1+1) cm4 rr rr 63 zcmc (Blk.new' sy rfl) U.o (by decide) rfl ?_;intro w2 b2 b3;have HM:=qh (Mk5.first b3 b2);clear b2 b3))
 go_cut [24] (fun v wx=>v=.bool ((n:Int) == 80)∧w2=wx)
 case first =>
  go_wp2
  go_meet
  exact⟨rfl,rfl⟩
 case rest =>
 obtain⟨rfl,rfl⟩:=hcut
 go_step
 go_cut [10] (fun v wx=>v=.int .i64 (szE xs:Int)∧Hid (Mk5 w wx (smSc xs) (smOwn xs) (smLast xs).cells))
 case first =>
  by_cases hn:n=80
  · subst hn
    obtain⟨b,D,rfl,hb,_⟩:=hx.2 om;have n32:¬ca=32:=om;have d7:¬ca=64:=om;have r:=Y.o
    have HS:Hid (splice (u8s (List.replicate 32 0)) 0 ((u8s xs).take 32)=u8s (smSc xs)):=by
     show _=_
     rw[smSc,if_pos r,zap _ _ (by rw[List.length_take,zaa,zaa,r];rfl),zay]
    have HO:Hid (splice (u8s (List.replicate 32 0)) 0 ((u8s (xs.drop 32)).take 32)=u8s (smOwn xs)):=by
     show _=_
     rw[smOwn,if_pos r,zap _ _ (by rw[List.length_take,zaa,List.length_drop,zaa,r];rfl),zay]
    have HC:Hid (splice cm4 4 ((u8s (xs.drop 64)).take 16)=(smLast xs).cells):=by
     show _=_
     rw[zkn _ (by rw[List.length_drop,r]),smLast,if_pos r]
    have c4:Hid (Rd w2 (some ⟨b,D,none⟩) 80 (u8s xs)):=HR.o.below HM.o.bel;have c8:(((80:Nat):Int) == 80)=true:=rfl;have a0:szE xs=0:=by rw[szE,if_pos r]
    have c7:=qh a0;clear r a0 J hb
    go_upto_region 7 with (refine zav rfl (.tmp 25) (.tmp 26) 22 rfl 5 Tryz.underlying22 zbk (w.heap.size+1+1) 0 32 32 rr (some ⟨b,D,none⟩) 80 ca rr 27 _ (by exact HM.o.sca) (u8s xs) (by exact c4.o) (zac _) (by rw[zaa,lp9];decide) ?_;intro w3 a2 b5;rw[HS.o]at a2;have a5:=qh (HM.o.sca' b5 a2);have c6:Hid (Rd w3.drew (some ⟨b,D+32,none⟩) 48 (u8s (xs.drop 32))):=(HR.o.below a5.o.bel).drop' 32 48 rfl;clear a2 b5)
    go_region_held3 (fun _=>True) (trivial) ((refine zbs rfl (.tmp 28) (.tmp 30) 22 rfl 5 Tryz.underlying22 zcq (w.heap.size+1+1+1) 0 32 32 rr (some ⟨b,D+32,none⟩) 48 (ca-32) rr 27 _ (by exact a5.o.drew.own) (u8s (xs.drop 32)) c6.o (zac _) (by rw[zaa,lp9];decide) ?_;intro w4 a6 b6))
    rw[HO.o]at a6;have G:=qh (a5.o.drew.own' b6 a6);have b9:Hid (Rd w4.drew (some ⟨b,D+64,none⟩) 16 (u8s (xs.drop 64))):=(HR.o.below G.o.bel).drop' 64 16 rfl;clear a6 b6;go_wp2
    go_region_held3 (fun _=>True) (trivial) ((refine zbs rfl (.tmp 33) (.tmp 35) 22 rfl 5 Tryz.underlying22 zcq (w.heap.size+1+1+1+1) 4 16 16 rr (some ⟨b,D+64,none⟩) 16 (ca-64) rr 63 _ (by exact G.o.drew.cmd) (u8s (xs.drop 64)) b9.o (zac _) (by decide) ?_;intro w5 a4 a7))
    rw[HC.o]at a4;have E:=qh (G.o.drew.cmd' a7 a4);clear a4 a7
    try go_wp2
    go_meet
    exact⟨by rw[c7.o];rfl,E⟩
  · have c8:((n:Int) == 80)=false:=by rw[beq_eq_false_iff_ne];omega
    have r:¬xs.length=80:=by rw[Y.o];exact hn
    have HF:Hid (smSc xs=List.replicate 32 0∧smOwn xs=List.replicate 32 0∧smLast xs=⟨4,0,0,0,List.replicate 16 0⟩∧szE xs=2):=⟨by rw[smSc,if_neg r],by rw[smOwn,if_neg r],by rw[smLast,if_neg r],by rw[szE,if_neg r]⟩;clear r J hn;go_wp2
    go_meet
    exact⟨by rw[HF.o.2.2.2];rfl,by rw[HF.o.1,HF.o.2.1,HF.o.2.2.1];exact HM⟩
 case rest =>
 obtain⟨rfl,I⟩:=hcut;clear HM U;obtain⟨w3,rfl⟩:=ex9 (wc)
 go_upto_region 10 with fail
 go_cut [48] (fun v wx=>v=.bool (idB hs)∧w3=wx)
 case first =>
  by_cases hm0:m=0
  · subst hm0
    obtain rfl:hs=[]:=List.eq_nil_of_length_eq_zero hl;go_wp2
    go_meet
    exact⟨rfl,rfl⟩
  · have d9:(0:Int)<(m:Int):=om
    obtain⟨o,ho⟩:∃o,hs[0]? = some o:=⟨_,ge9 om⟩;obtain⟨b,D,rfl,hb,b7⟩:=zbl hh a1 ho om;have c1:w3.cell? ⟨b,D+1,none⟩=some (.int .u64 (o.id:Int)):=(I.o.bel.cell (p:=⟨b,D+1,none⟩) hb).trans (by have h5:=b7 1 _ (Ho.at_id o);rwa [Nat.zero_mul,Nat.add_zero]at h5)
    have c3:Hid (((o.id:Int) == 0)=idB hs):=by
     show _=_
     cases hs with
     | nil=>simp at ho
     | cons a l =>
      simp at ho
      subst ho
      show _=(a.id == 0)
      rw[Bool.eq_iff_iff]
      simp
    clear ho b7 hh;go_wp2
    go_meet
    exact⟨by rw[c3.o],rfl⟩
 case rest =>
 obtain⟨rfl,rfl⟩:=hcut
 go_step
 go_cut [11] (fun v wx=>v=.int .i64 (idE hs:Int)∧w3=wx)
 case first =>
  have a8:Hid (idE hs=if idB hs then 3 else 0):=rfl;generalize idB hs=ib at *
  cases ib
  · go_wp2
    go_meet
    exact⟨by rw[a8.o];rfl,rfl⟩
  · go_wp2
    go_meet
    exact⟨by rw[a8.o];rfl,rfl⟩
 case rest =>
 obtain⟨rfl,rfl⟩:=hcut;have l0:=cm_ld I.o.cmd d3.o;have c0:=qh I.o.bel;have a0:w.heap.size≤w3.heap.size:=I.o.bel.size;generalize smLast xs=last at *;generalize pathE last hs=PE at *;generalize idE hs=IE at *;generalize szE xs=SE at *;have d8:¬(LE:Int)=0:=om;clear hh hx J a1 hl hm he HR Y
 go_wp2_with (first
  | (go_at_call 18;(refine(d5.o _ (by exact c0.o)).mono ?_);rintro e w4 ⟨A4,n4,rfl,a9⟩;have G:=qh (I.o.below a9);clear a9)
  | (go_at_call 19;(refine(c9.o _ _ (by exact znw _ _ _ _ _)).mono ?_);rintro e w5 ⟨rfl,rfl⟩;have E:=qh (G.o.alloc (.cells #[.int .i64 (SE:Int),.int .i64 (IE:Int),.int .i64 (PE:Int)] 38)))
  | (refine zai rfl 34 [] rfl [] rr _ (zlz _) ?_)
  | (refine zai rfl 37 [] rfl [] rr _ (bldSo _) ?_)
  | (refine zab rfl 34 (.tmp 4) (.tmp 62) rfl w.heap.size z37 rr rr 34 z37 (by exact E.o.blk) V.o zqd rfl ?_;intro w6 M a3;have c2:=qh M;have c5:=qh (a3.blk E.o.sto om);have b4:=qh (a3.below E.o.bel lr E.o.bel.size);clear M a3)
  | (refine zab rfl 37 (.tmp 5) (.tmp 63) rfl (w.heap.size+1) zSo rr rr 37 zSo (by exact c5.o) X.o (zd5 _ _ _ _ _) rfl ?_;intro w7 d4 b1))
 have M:=b1.blk c2.o om;have d0:=b1.below b4.o om b4.o.size;exact bodyPost_ret (zmf rfl _ _ _ _ _ _ _ rfl rfl M d4 _ _ Tryz.underlying34 rfl V.o Tryz.underlying37 rfl X.o) rfl ⟨rfl,d0⟩
end
section
attribute [local go_sem ↓] zi7 zih zht zg0 zch zfs zof znl zfx zb0
theorem ztj(hq own:List UInt8)(id:Int)(h1:hq.length=288)(h2:own.length=32)(w:World):(Instr.build 34 [(0,(.agg (u8s hq).toArray:Value)),(1,(.int .u64 id:Value)),(2,.agg (u8s own).toArray)].toArray).run Tryz.prog w=.ok (.agg (u8s hq++([(.int .u64 id:Value)]++u8s own)).toArray) w:=by
 have e0:(u8s hq).length=288:=by rw[zaa,h1]
 have e2:(u8s own).length=32:=by rw[zaa,h2]
 refine zbt Tryz.zeroValue34 Tryz.underlying34 (pl37 _ Tryz.underlying34) ?_ w;rw[zc37]
 show Instr.fill _ _ [(0,_),(1,_),(2,_)]=_
 rw [zat (cs:=u8s hq) rfl (by rw[e0];rfl) (by rw[e0,zdq];omega),z37,zdm _ _ _ (by rw[e0,zaa,zao]),
   zat (cs:=[.int .u64 id]) rfl rfl (by simp[e0,zaa,zao]),zc7 _ [.int .u64 0] _ [.int .u64 id] 288 e0 sy,
   zat (cs:=u8s own) rfl (by rw[e2];rfl) (by simp[e0,e2,zaa,zao]),←as9,zex _ _ _ _ (by simp[e0]) (by simp[e2,zaa,zao]),as9]
 rfl
theorem zny{a:Act}{f:Flt}{s:Option Nat}{t:Tmp}(h:f.d≠t):(putF a [(f,s)]).eval (.tmp t)=a.eval (.tmp t):=by
 cases s with
 | none=>rfl
 | some g =>
  show((a.put (some f.d) (f.v g)).eval (.tmp t))=_
  simp[Act.put,Act.eval,h]
theorem szKb(w:World):(sizeOf 27).run Tryz.prog w=.ok 32 w:=by kernel_rfl
theorem agKb(w:World):(isAgg 35).run Tryz.prog w=.ok false w:=by kernel_rfl
theorem hd16b:(Tryz.prog.info? 28).map (·.size)=some 16:=by kernel_rfl
theorem Blk.tne{w:World}{g g':Nat}{t t':TypeId}{cs r:List Value}(h:Blk w g t cs)(h':Blk w g' t' r)(ht:t≠t'):g≠g':=by
 intro e;subst e;have h5:=h.symm.trans h'
 injection h5 with h5
 injection h5 with _ h5 _
 exact ht h5
theorem szDh(w:World):(sizeOf 69).run Tryz.prog w=.ok 68 w:=by kernel_rfl
theorem zvSo(w:World):(zeroValue 37).run Tryz.prog w=.ok (.agg zSo.toArray) w:=by kernel_rfl
def placesSo:Array (Nat × Nat):=#[(0,16),(16,32),(48,1)]
theorem plSo(r:Array Field)(h:Tryz.prog.underlying 37 = some (.struct r))(w:World):(r.mapM (fun f=>do pure (f.offset,←sizeOf f.type)):Sem (Array (Nat × Nat))).run Tryz.prog w=.ok placesSo w:=by
 rw[Tryz.underlying37]at h
 injection h with h
 injection h with h
 subst h
 kernel_rfl
theorem buildSo(mark own:List UInt8)(A:Option Addr)(m c:Nat)(h1:mark.length=16)(h2:own.length=32)(w:World):(Instr.build 37 [(0,(.agg (u8s mark).toArray:Value)),(1,.agg (u8s own).toArray),(2,.slice A m c)].toArray).run Tryz.prog w=.ok (.agg (soC mark own A m c).toArray) w:=by
 have e0:(u8s mark).length=16:=by rw[zaa,h1]
 have e2:(u8s own).length=32:=by rw[zaa,h2]
 refine zbt zvSo Tryz.underlying37 (plSo _ Tryz.underlying37) ?_ w
 show Instr.fill _ _ [(0,_),(1,_),(2,_)]=_
 rw [zat (cs:=u8s mark) rfl (by rw[e0];rfl) (by rw[e0,zc0];omega),zSo,soC,zdm _ _ _ (by rw[e0];simp[zaa]),
   zat (cs:=u8s own) rfl (by rw[e2];rfl) (by simp[e0,e2,zaa]),zc7 _ (u8s (List.replicate 32 0)) _ (u8s own) 16 e0 (by rw[e2];simp[zaa]),
   zat (cs:=[.slice A m c]) rfl rfl (by simp[e0,e2]),←as9,zex _ _ _ _ (by simp[e0,e2]) sy,as9]
 rfl
theorem zwb{o:Oper}{a:Act}{W:World}(ho:o.op=.alloc 34):(execOp a.eval o).run Tryz.prog W=.ok (.value (.pointer (some ⟨W.heap.size,0,none⟩))) (W.alloc (.cells z37.toArray 34)):=by
 unfold execOp
 rw[ho]
 kernel_rfl
theorem zox{o:Oper}{a:Act}{W:World}(ho:o.op=.alloc 37):(execOp a.eval o).run Tryz.prog W=.ok (.value (.pointer (some ⟨W.heap.size,0,none⟩))) (W.alloc (.cells zSo.toArray 37)):=by
 unfold execOp
 rw[ho]
 kernel_rfl
theorem zxg(xs:List UInt8)(hs:List Ho)(h1:(smH xs hs).length=288)(h3:id0 hs<18446744073709551616):u8s (smH xs hs)++([(.int .u64 (id0 hs:Int):Value)]++u8s (smOwn xs))=blkCells (smL xs hs):=by
 have hb:(Sh.beBytes (id0 hs) 8).length=8:=Sh.beBytes_len _ _;rw[blkCells,smL,List.drop_left' hb,List.take_left' hb,List.take_left' h1,zow 8 (id0 hs) h3,←as9 (Sh.beBytes _ _),List.drop_left' (by rw[la9,hb,h1])]
def SmP(w:World)(xs:List UInt8)(hs:List Ho)(m:Nat)(e:Ending)(w':World):Prop :=
 ((scE (xs.take 32) hs≠0∧e=.returned (.tuple #[.agg z37.toArray,.agg zSo.toArray,.int .i64 (scE (xs.take 32) hs:Int)])) ∨
  (scE (xs.take 32) hs=0∧∃g,e=.returned (.tuple #[.agg (blkCells (smL xs hs)).toArray,.agg (soC (xs.drop 64) (smOwn xs) (some ⟨g,0,none⟩) m m).toArray,.int .i64 0])∧w.heap.size≤g∧Blk w' g 27 (u8s (smPays xs hs).flatten)))∧Below w.heap.size w w'
theorem zk3(A H:Option Addr)(n ca m c:Nat)(xs:List UInt8)(hs:List Ho)(w:World)(hx:Rd w A n (u8s xs))(v6:n≤ca)(hh:RdS 68 w H m (hs.flatMap Ho.cells))(M:∀s∈hs,s.ok)(hl:hs.length=m)(he:sm3 xs hs=0):
 Calls Tryz.prog 6 #[.slice A n ca,.slice H m c] w (SmP w xs hs m):=by
 obtain⟨J,j5,s2,n7,f8⟩:=sm3_0 he;obtain⟨k,hk⟩:∃k,m=k+1:=⟨m-1,by omega⟩;subst hk;obtain rfl:n=80:=by rw[←hx.len,J]
 have x1:k≤4:=om;have hc:(smLast xs).ok:=zdb xs;have j9:Hid (∀W,Below w.heap.size w W→Calls Tryz.prog 18 #[.agg (smLast xs).cells.toArray,.slice H (k+1) c] W fun e w'=>∃A',e=.returned (.tuple #[.slice A' (k+1) (k+1),.int .i64 0])∧RdS 20 w' A' (k+1) ((pathL (smLast xs) hs).flatMap Cm.cells)∧Below W.heap.size W w'):=fun W hW=>zn1 (smLast xs) hc H (k+1) c hs W (hh.bel hW lr) M hl j5
 have m3:Hid (∀W,Below w.heap.size w W→Calls Tryz.prog 21 #[.slice H (k+1) c] W fun e w'=>∃A',e=.returned (.slice A' (k+1) (k+1))∧RdB w' A' (k+1) (hs.map Ho.pub)∧Below W.heap.size W w'):=fun W hW=>zmk H (k+1) c hs W (hh.bel hW lr) M hl om
 have r2:Hid (∀W C g,Rd W (some ⟨g,0,none⟩) 32 (u8s (xs.take 32))→RdB W C (k+1) (hs.map Ho.pub)→Calls Tryz.prog 20 #[.slice (some ⟨g,0,none⟩) 32 32,.slice C (k+1) (k+1)] W fun e w'=>∃A' n' c',e=.returned (.tuple #[.slice A' n' c',.int .i64 (scE (xs.take 32) hs:Int)])∧n'≤c'∧(scE (xs.take 32) hs=0→n'=k+1∧RdS 192 w' A' (k+1) ((scL (xs.take 32) hs).flatMap Sp.cells))∧Below W.heap.size W w'):=fun W C g h1 hp =>
  zq1 (some ⟨g,0,none⟩) C 32 32 (k+1) (k+1) (xs.take 32) hs W h1 om hp M hl
 have q5:Hid (∀W A3,Rd W A3 3 (i64s [0,0,0])→Calls Tryz.prog 19 #[.slice A3 3 3] W fun e w'=>e=.returned (.int .i64 0)∧W=w'):=fun W A3 h3=>zls A3 3 3 _ W h3 om
 have r3:=qh (Cm.cells_len hc);have f3:Hid ((Tryz.prog.info? 63).map (·.size)=some cm4.length):=hd76c;have f4:Hid ((Tryz.prog.info? 34).map (·.size)=some z37.length):=by show _=_;rw[zdq];exact hd37
 have g7:Hid ((Tryz.prog.info? 37).map (·.size)=some zSo.length):=by show _=_;rw[zc0];exact hdSo
 have HS:Hid (splice (u8s (List.replicate 32 0)) 0 ((u8s xs).take 32)=u8s (xs.take 32)):=by
  show _=_
  rw[zap _ _ (by rw[List.length_take,zaa,zaa,J];rfl),zay]
 have HO:Hid (splice (u8s (List.replicate 32 0)) 0 ((u8s (xs.drop 32)).take 32)=u8s (smOwn xs)):=by
  show _=_
  rw[smOwn,if_pos J,zap _ _ (by rw[List.length_take,zaa,List.length_drop,zaa,J];rfl),zay]
 have HC:Hid (splice cm4 4 ((u8s (xs.drop 64)).take 16)=(smLast xs).cells):=by
  show _=_
  rw[zkn _ (by rw[List.length_drop,J]),smLast,if_pos J]
 obtain⟨b,b6,rfl,hb,_⟩:=hx.2 om;have HR:=qh hx;obtain⟨o,ho⟩:∃o,hs[0]? = some o:=⟨_,ge9 om⟩;have s9:=qh (mg9 ho);obtain⟨bh,oh,rfl,j6,r0⟩:=zbl hh M ho om;have i4:Hid (w.cell? ⟨bh,oh+1,none⟩=some (.int .u64 (o.id:Int))):=by have h5:=r0 1 _ (Ho.at_id o);rwa [Nat.zero_mul,Nat.add_zero]at h5
 have j8:Hid (id0 hs=o.id):=by
  show _=_
  cases hs with
  | nil=>simp at ho
  | cons a l=>simp at ho;subst ho;rfl
 have n2:((o.id:Int) == 0)=false:=by rw[beq_eq_false_iff_ne];have:=f8 o ho;omega
 have t7:(((80:Nat):Int) == 80)=true:=rfl;have n32:¬ca=32:=om;have v7:¬ca=64:=om;have D:=qh J;have i6:=qh M;have a1:=qh hl;have e7:=qh j5;have s5:=qh n7;clear hx hh M hl he J j5 s2 n7 f8 ho r0 hc
 go_enter Tryz.func6, Tryz.ntmps6
 go_upto_region 7 with (first
  | (refine zai rfl 63 [(0,.const (.int .u8 4))] rfl _ rr (.agg cm4.toArray) (znc _) ?_)
  | (refine zab rfl 63 (.tmp 9) (.tmp 21) rfl (w.heap.size+1+1+1+1) cm4 rr rr 63 zcmc (Blk.new' sy rfl) f3.o (by decide) rfl ?_;intro w2 n3 n4;have HM:=qh (Mk5.first n4 n3);have m7:Hid (Rd w2 (some ⟨b,b6,none⟩) 80 (u8s xs)):=HR.o.below HM.o.bel;clear n3 n4)
  | (refine zav rfl (.tmp 25) (.tmp 26) 22 rfl 5 Tryz.underlying22 zbk (w.heap.size+1+1) 0 32 32 rr (some ⟨b,b6,none⟩) 80 ca rr 27 _ (by exact HM.o.sca) (u8s xs) (by exact m7.o) (zac _) (by rw[zaa,lp9];decide) ?_;intro w3 i5 q2;rw[HS.o]at i5;have e9:=qh (HM.o.sca' q2 i5);have o4:Hid (Rd w3.drew (some ⟨b,b6+32,none⟩) 48 (u8s (xs.drop 32))):=(HR.o.below e9.o.bel).drop' 32 48 rfl;clear i5 q2))
 go_region_held3 (fun _=>True) (trivial) ((refine zbs rfl (.tmp 28) (.tmp 30) 22 rfl 5 Tryz.underlying22 zcq (w.heap.size+1+1+1) 0 32 32 rr (some ⟨b,b6+32,none⟩) 48 (ca-32) rr 27 _ (by exact e9.o.drew.own) (u8s (xs.drop 32)) o4.o (zac _) (by rw[zaa,lp9];decide) ?_;intro w4 k2 q6))
 rw[HO.o]at k2;have e5:=qh (e9.o.drew.own' q6 k2);have l9:Hid (Rd w4.drew (some ⟨b,b6+64,none⟩) 16 (u8s (xs.drop 64))):=(HR.o.below e5.o.bel).drop' 64 16 rfl;clear k2 q6;go_wp2
 go_region_held3 (fun _=>True) (trivial) ((refine zbs rfl (.tmp 33) (.tmp 35) 22 rfl 5 Tryz.underlying22 zcq (w.heap.size+1+1+1+1) 4 16 16 rr (some ⟨b,b6+64,none⟩) 16 (ca-64) rr 63 _ (by exact e5.o.drew.cmd) (u8s (xs.drop 64)) l9.o (zac _) (by decide) ?_;intro w5 j7 l2))
 rw[HC.o]at j7;have a4:=qh (e5.o.drew.cmd' l2 j7);have l5:=cm_ld a4.o.cmd r3.o;have c5:w5.cell? ⟨bh,oh+1,none⟩=some (.int .u64 (o.id:Int)):=(a4.o.bel.cell (p:=⟨bh,oh+1,none⟩) j6).trans i4.o;have o9:=qh a4.o.bel;have v3:w.heap.size≤w5.heap.size:=a4.o.bel.size;clear j7 l2 HM e9 e5 m7 o4 l9 HS HO HC f3;obtain⟨CL,i1⟩:=ex9 ((smLast xs).cells)
 have r1:Hid ((CL.drop 4).take (u8s (xs.drop 64)).length=u8s (xs.drop 64)):=by
  show _=_
  rw[i1,smLast,if_pos D.o];have h5:(u8s (xs.drop 64)).length=16:=by rw[zaa,List.length_drop,D.o]
  rw[h5];exact tk (by show(u8s (xs.drop 64)).length≤16;omega)
 rw[←i1]at j9 a4 l5 r3;clear i1;have t5:(0:Int)<(k:Int)+1:=om;have o5:(0:Int)<((k+1:Nat):Int):=om
 go_upto_region 16 with (first
  | (go_at_call 18;(refine(j9.o _ (by exact o9.o)).mono ?_);rintro e w6 ⟨A6,rfl,m8,n5⟩;have o6:=qh (a4.o.below n5);have l3:=qh m8;clear n5 m8)
  | (go_at_call 19;(refine(q5.o _ _ (by exact znw _ _ _ _ _)).mono ?_);rintro e w7 ⟨rfl,rfl⟩;have i7:=qh (o6.o.alloc (.cells #[.int .i64 0,.int .i64 0,.int .i64 0] 38));have n0:=qh (l3.o.allo (.cells #[.int .i64 0,.int .i64 0,.int .i64 0] 38))))
 have t6:Hid ((xs.take 32).length=32):=by show _=_;rw[List.length_take,D.o];rfl
 clear j9 q5 l5 c5 o9 t5 o5 t7
 go_region_held3 (fun _=>True) (trivial) ((first
  | (go_at_call 21;(refine(m3.o _ (by exact i7.o.drew.bel)).mono ?_);rintro e w8 ⟨A8,rfl,m9,j3⟩;have j1:=qh (i7.o.drew.below j3);have s0:=qh (RdS.belo (w:=(w6.alloc (.cells #[.int .i64 0,.int .i64 0,.int .i64 0] 38)).drew) n0.o j3);have l0:=qh m9;clear m9 j3)
  | (go_at_call 20;(refine(r2.o _ _ _ (by exact j1.o.sca.all t6.o) (by exact l0.o)).mono ?_);rintro e w9 ⟨A9,n9,c9,rfl,t2,d9,k0⟩;have b7:=qh (j1.o.below k0);have m4:=qh (s0.o.belo k0);have i8:=qh d9
     clear d9 k0)))
 clear m3 r2 a4 o6 i7 j1 l3 n0 s0 l0
 go_upto_region 17 with fail
 have hc:=zdb xs
 by_cases hsc:scE (xs.take 32) hs=0
 · have q0:((scE (xs.take 32) hs:Nat):Int)=0:=om
   obtain⟨rfl,d9⟩:=i8.o hsc;have d5:=qh d9;obtain⟨_,e6,e3⟩:=zip hsc
   have k7:(smH xs hs).length=288:=by
    have h5:=zfy (cs:=pathL (smLast xs) hs) (ss:=scL (xs.take 32) hs) (n:=k+1) (zff hc i6.o e7.o) e3 (by rw[zcx,a1.o]) (by rw[e6,a1.o]) om (k+1) lr;rw[smH,a1.o];exact h5
   have m5:Hid (∀W,RdS 20 W A6 (k+1) ((pathL (smLast xs) hs).flatMap Cm.cells)→RdS 192 W A9 (k+1) ((scL (xs.take 32) hs).flatMap Sp.cells)→Calls Tryz.prog 22 #[.slice A6 (k+1) (k+1),.slice A9 (k+1) c9] W fun e w'=>e=.returned (.tuple #[.agg (u8s (smH xs hs)).toArray,.int .i64 0])∧Below W.heap.size W w'):=fun W h1 h2=>by
    rw[smH,a1.o];exact zv8 A6 A9 k (k+1) c9 (pathL (smLast xs) hs) (scL (xs.take 32) hs) W h1 h2 (zff hc i6.o e7.o) e3 (by rw[zcx,a1.o]) (by rw[e6,a1.o]) t2 (by rw[←a1.o];exact zlf e7.o)
   have a5:=qh k7;have X:Hid ((smOwn xs).length=32):=by show _=_;rw[smOwn,if_pos D.o,List.length_take,List.length_drop,D.o];rfl
   have p9:=qh hsc;have r4:=qh e6;have j4:=qh e3;clear d9 e6 e3 k7 i8 hsc;rw[q0];clear q0;obtain⟨Y,HY,p6⟩:∃Z:List Value,Hid (Tryz.zeroCells31 = Z.toArray)∧Hid (Z.length=288):=⟨_,zc34',by show(u8s _).length=_;rw[zaa];simp⟩;have p0:Hid ((Tryz.prog.info? 31).map (·.size)=some (u8s (smH xs hs)).length):=by show _=_;rw[zaa,a5.o];exact hd34
   have i0:Hid ((u8s (smH xs hs)).length=Y.length):=by show _=_;rw[zaa,a5.o,p6.o]
   go_upto_region 22 with (first
    | (go_at_call 22;(refine(m5.o _ (by exact m4.o) (by exact d5.o)).mono ?_);rintro e d6 ⟨rfl,c6⟩;have h6:=qh (b7.o.below c6);have g5:=qh (d5.o.belo c6);clear c6)
    | (refine zab rfl 31 (.tmp 17) (.tmp 81) rfl d6.heap.size (u8s (smH xs hs)) rr rr 31 Y (by exact Blk.new' rfl HY.o) p0.o (zac _) i0.o ?_;intro E a6 a3;have c4:Below d6.heap.size d6 E:=a3.below ((Below.refl _ d6).alloc lr _) lr sy;have U:=qh (h6.o.below c4);have g4:=qh (g5.o.belo c4);have c8:=qh a6;clear a6 a3 c4))
   clear m4 d5 b7 h6 g5 m5;have c0:id0 hs<18446744073709551616:=by rw[j8.o];exact(i6.o o s9.o).1
   have g0:Hid (∀w,(Instr.build 34 [(0,(.agg (u8s (smH xs hs)).toArray:Value)),(1,(.int .u64 (id0 hs:Int):Value)),(2,.agg (u8s (smOwn xs)).toArray)].toArray).run Tryz.prog w=.ok (.agg (blkCells (smL xs hs)).toArray) w):=fun w=>by
    rw[←zxg xs hs a5.o c0];exact ztj _ _ _ a5.o X.o w
   have I:(smL xs hs).length=328:=by rw[smL,la9,la9,Sh.beBytes_len,a5.o,X.o]
   have b5:Hid ((Tryz.prog.info? 34).map (·.size)=some (blkCells (smL xs hs)).length):=by show _=_;rw[zbe _ I];exact hd37
   have f0:Hid ((blkCells (smL xs hs)).length=z37.length):=by show _=_;rw[zbe _ I,zdq]
   have p3:Hid (E.cell? ⟨bh,oh+1,none⟩=some (.int .u64 (id0 hs:Int))):=by show _=_;rw[j8.o];exact(U.o.bel.cell (p:=⟨bh,oh+1,none⟩) j6).trans i4.o
   have c1:bh<E.heap.size:=Nat.lt_of_lt_of_le j6 U.o.bel.size;have d3:Hid ((Tryz.prog.info? 27).map (·.size)=some (u8s (smOwn xs)).length):=by show _=_;rw[zaa,X.o];exact hd24
   have d4:Hid (((u8s (smOwn xs)).drop 0).take (u8s (smOwn xs)).length=u8s (smOwn xs)):=by show _=_;rw[List.drop_zero,List.take_length]
   have j0:Hid (Below E.heap.size E { E with drawn:=E.drawn+1 }):=(Below.refl _ E).drew;clear c0 I p0 i0 HY p6 s5 e7 j8 i4 n2;refine kgo kr 10 (fun w'=>Below E.heap.size E w') j0.o (fun _ _ _ _ _ h=>h) ?_;refine kl 0 (.agg (u8s (smH xs hs)).toArray) rfl kr (fun w' hw'=>zaf (x:=.tmp 17) rr kr (hd_ld (c8.o.below hw' c8.o.lt) (by rw[zaa];exact a5.o))) ?_;refine kp 1 (.slice (some ⟨bh,oh,none⟩) (k+1) c) rfl kr (fun _=>kr) ?_;refine kp 2 (.pointer (some ⟨bh,oh+0*68,none⟩)) rfl kr (fun _=>zby (t:=41) (e:=69) (x:=.tmp 89) (y:=.const (.int .i64 0)) (n:=k+1) (c:=c) (p:=0) (sz:=68) rr kr rr om Tryz.underlying41 szDh) ?_;refine kp 3 (.pointer (some ⟨bh,oh,none⟩)) rfl kr (fun _=>kr) ?_;refine kp 4 (.pointer (some ⟨bh,oh,none⟩)) rfl kr (fun _=>kr) ?_;refine kp 5 (.pointer (some ⟨bh,oh+1,none⟩)) rfl kr (fun _=>kr) ?_;refine kl 6 (.int .u64 (id0 hs:Int)) rfl kr (fun w' hw'=>za0 (t:=32) (x:=.tmp 93) rr kr agU64 ((hw'.cell (p:=⟨bh,oh+1,none⟩) c1).trans p3.o)) ?_;refine kl 7 (.agg (u8s (smOwn xs)).toArray) rfl kr (fun w' hw'=>zaf (x:=.tmp 8) rr kr (zal (U.o.own.below hw' U.o.own.lt) 27 0 (u8s (smOwn xs)) d4.o _ Tryz.underlying27 rfl d3.o)) ?_;refine kp 8 (.agg (blkCells (smL xs hs)).toArray) rfl kr (fun _=>zop 34 [(0,.tmp 88),(1,.tmp 94),(2,.tmp 95)] rr [(0,(.agg (u8s (smH xs hs)).toArray:Value)),(1,(.int .u64 (id0 hs:Int):Value)),(2,.agg (u8s (smOwn xs)).toArray)] kr (g0.o _)) ?_;intro q8 q9;clear q8 q9;refine AnyG.start E.heap.size [⟨9,18,34,z37,fun g=>.pointer (some ⟨g,0,none⟩)⟩] (fun W=>Below E.heap.size E W) 1 rfl j0.o ?_;refine AnyG.fin sy kr ?_ ga9 gs9 (fun W h=>h) ?_
   · exact flt1 ⟨_,rfl,rfl,rfl,fun F W _=>zwb rfl⟩
   intro F W hF h0 hR M;obtain⟨b4,rfl⟩:=zjz hF h0;obtain⟨⟨m0,f1,_⟩,_⟩:=M;refine AnyK.storeAll 10 b4 (blkCells (smL xs hs)) 34 z37 rr rfl rfl rr kr kr kr f1 b5.o (zcz _) f0.o (fun _ _ _ h=>(by cases h)) ?_;intro r g6 g9;have d8:Below E.heap.size E r:=g9.below hR m0 hR.size;have V:=qh (U.o.below d8);have s4:w.heap.size+4<E.heap.size:=U.o.cmd.lt;have g1:=qh (g4.o.belo d8);have a9:=qh g6;refine AnyK.done kr ?_;clear g6 g9 d8 f1 hF h0 hR j0 c8 U g4 p3 c1;simp only[putF]
   go_upto_region 23 with fail
   have r9:Hid (∀g w,(Instr.build 37 [(0,(.agg (u8s (xs.drop 64)).toArray:Value)),(1,(.agg (u8s (smOwn xs)).toArray:Value)),(2,.slice (some ⟨g,0,none⟩) (k+1) (k+1))].toArray).run Tryz.prog w=.ok (.agg (soC (xs.drop 64) (smOwn xs) (some ⟨g,0,none⟩) (k+1) (k+1)).toArray) w):=fun g w=>buildSo _ _ _ _ _ (by rw[List.length_drop,D.o]) X.o w
   have e1:Hid (∀g,(Tryz.prog.info? 37).map (·.size)=some (soC (xs.drop 64) (smOwn xs) (some ⟨g,0,none⟩) (k+1) (k+1)).length):=fun g=>by rw[zdr (by rw[List.length_drop,D.o]) X.o];exact hdSo
   have e2:Hid (∀g,(soC (xs.drop 64) (smOwn xs) (some ⟨g,0,none⟩) (k+1) (k+1)).length=zSo.length):=fun g=>by rw[zdr (by rw[List.length_drop,D.o]) X.o,zc0]
   have o3:Hid ((Tryz.prog.info? 28).map (·.size)=some (u8s (xs.drop 64)).length):=by show _=_;rw[zaa,List.length_drop,D.o];exact hd16b
   have i3:Hid (((k:Int)+1)=((k+1:Nat):Int)):=rfl;have o7:Hid (32*(k+1)≤281474976710656):=(by show _≤_;omega);have p8:Hid (k+1≤140737488355328):=(by show _≤_;omega);have j2:Hid (Below r.heap.size r { r with drawn:=r.drawn+1 }):=(Below.refl _ r).drew;refine kgo kr 8 (fun w'=>Below r.heap.size r w') j2.o (fun _ _ _ _ _ h=>h) ?_;refine kp 0 (.pointer (some ⟨w.heap.size+1+1+1+1,4,none⟩)) rfl kr (fun _=>kr) ?_;refine kl 1 (.agg (u8s (xs.drop 64)).toArray) rfl kr (fun w' hw'=>zaf (x:=.tmp 97) rr kr (zal (V.o.cmd.below hw' V.o.cmd.lt) 28 4 (u8s (xs.drop 64)) r1.o _ Tryz.underlying28 rfl o3.o)) ?_;refine kl 2 (.agg (u8s (smOwn xs)).toArray) rfl kr (fun w' hw'=>zaf (x:=.tmp 8) rr kr (zal (V.o.own.below hw' V.o.own.lt) 27 0 (u8s (smOwn xs)) d4.o _ Tryz.underlying27 rfl d3.o)) ?_;refine kp 3 (.slice A9 (k+1) c9) rfl kr (fun _=>kr) ?_;refine kp 4 (.int .i64 ((k:Int)+1)) rfl kr (fun _=>kr) ?_;intro q8 q9;clear q8 q9;refine AnyG.start r.heap.size [⟨7,19,37,zSo,fun g=>.pointer (some ⟨g,0,none⟩)⟩] (fun W=>Below r.heap.size r W) 3 rfl j2.o ?_;refine AnyG.step 5 (di:=102) [] (fun g:Nat=>.slice (some ⟨g,0,none⟩) (k+1) (k+1)) (fun g W=>Below r.heap.size r W∧r.heap.size≤g∧Blk W g 27 (rep ((k+1)*32) (.int .u8 0))) rr rfl sy sy kr ?_ ?_ ga9 gs9 (fun W h=>h) (fun _ W h=>h.1) ?_
   · intro F W hF hR M w1 K hK
     obtain⟨s1,rfl⟩:=zi3 hF;refine zng (.tmp 101) (.tmp 101) 35 rfl 27 (.agg (List.replicate 32 (.int .u8 0)).toArray) 32 32 (.int .u8 0) Tryz.underlying35 iA32 rfl (by decide) .i64 .i64 ((k:Int)+1) ((k:Int)+1) ((zny (by decide)).trans kr) ((zny (by decide)).trans kr) (k+1) (k+1) i3.o i3.o lr o7.o p8.o ?_;intro w' hb hg hs;exact hK W.heap.size _ ⟨hR.trans ((zad hg).mono hR.size),hR.size,hb⟩ (zad hg)
   · exact flt1 ⟨_,rfl,rfl,rfl,fun F W _=>zox rfl⟩
   intro g;refine AnyG.pure 6 (di:=103) (v:=.agg (soC (xs.drop 64) (smOwn xs) (some ⟨g,0,none⟩) (k+1) (k+1)).toArray) rfl rfl rfl sy kr (fun _ _ _ h=>h) (fun F W hF=>by obtain⟨s1,rfl⟩:=zi3 hF;rcases s1 with _|k1 <;> exact zop 37 [(0,.tmp 98),(1,.tmp 99),(2,.tmp 102)] rr [(0,(.agg (u8s (xs.drop 64)).toArray:Value)),(1,(.agg (u8s (smOwn xs)).toArray:Value)),(2,.slice (some ⟨g,0,none⟩) (k+1) (k+1))] kr (r9.o _ _)) (fun W h=>h.1) ?_;refine AnyG.fin sy kr ?_ (fun W o h=>⟨h.1.alloc h.1.size o,h.2.1,h.2.2.alloc o⟩) (fun W h=>h.1.size) (fun W h=>h.1) ?_
   · exact flt1 ⟨_,rfl,rfl,rfl,fun F W _=>zox rfl⟩
   intro F W hF h0 hR M;obtain⟨a2,rfl⟩:=zjz hF h0;obtain⟨⟨c3,d0,_⟩,_⟩:=M;have k5:g≠a2:=Blk.tne hR.2.2 d0 (by decide);refine AnyK.storeAll 8 a2 (soC (xs.drop 64) (smOwn xs) (some ⟨g,0,none⟩) (k+1) (k+1)) 37 zSo rr rfl rfl rr kr kr kr d0 (e1.o g) (zd5 _ _ _ _ _) (e2.o g) (fun _ _ _ h=>(by cases h)) ?_;intro i9 h8 d7;have a8:Hid (Below r.heap.size r i9):=d7.below hR.1 c3 hR.1.size;have f6:=qh h8;have f9:=qh (d7.blk hR.2.2 k5);have e4:Hid (r.heap.size≤g):=hR.2.1;have k4:=qh c3;refine AnyK.done kr ?_;clear h8 d7 d0 hF h0 hR j2 c3 r1 o3 d4 d3 g0 r9;simp only[putF]
   go_upto_region 25 with fail
   obtain⟨b9,a0,rfl,v8,_⟩:=g1.o.2 om;have n1:Hid ((smPays xs hs).length=k+1):=by show _=_;rw[smPays,List.length_map,r4.o,a1.o]
   have n6:Hid (∀x∈smPays xs hs,x.length=32):=fun x hx=>by
    obtain⟨s,t9,rfl⟩:=List.mem_map.1 hx;exact(j4.o s t9).2.2.1
   have f2:=qh (a9.o.below a8.o a9.o.lt);have s3:b4<r.heap.size:=a9.o.lt;have x0:w.heap.size+4<r.heap.size:=V.o.cmd.lt;have g3:=qh (V.o.below a8.o);have r5:Hid (Blk i9 g 27 (u8s ((smPays xs hs).take 0).flatten++rep ((k+1-0)*32) (.int .u8 0))):=f9.o;have h7:Hid (Below r.heap.size r i9):=a8.o;clear V a9 f9 b5 f0 i3 o7 p8 e2
   go_wp2_with fail
   go_loopg [106] (k+1) (fun kk q wr=>∃i:Nat,i≤k+1∧kk=k+1-i∧q=.int .i64 i∧Hid (Blk wr g 27 (u8s ((smPays xs hs).take i).flatten++rep ((k+1-i)*32) (.int .u8 0)))∧Hid (Blk wr a2 37 (soC (xs.drop 64) (smOwn xs) (some ⟨g,0,none⟩) (k+1) (k+1)))∧Hid (Below r.heap.size r wr)∧Hid (Mk5 w wr (xs.take 32) (smOwn xs) CL)∧Hid (Blk wr b4 34 (blkCells (smL xs hs))))
   case atStart=>exact⟨0,by omega,rfl,rfl,r5,f6,h7,g3,f2⟩
   case round =>
    clear r5 f6 h7 g3 f2 a8;obtain⟨i,hi,q7,rfl,HZ,HS,HE,HM,HB⟩:=hrel;have s7:=qh q7;clear q7
    by_cases hlt:i<k+1
    · have r6:(i:Int)<(k:Int)+1:=om
      have v2:(i:Int)<((k+1:Nat):Int):=om;obtain⟨s,c2⟩:∃s,(scL (xs.take 32) hs)[i]? = some s:=⟨_,ge9 (by rw[r4.o,a1.o];exact hlt)⟩;have i2:=j4.o s (mg9 c2);have o0:(smPays xs hs)[i]? = some s.pay:=by rw[smPays,List.getElem?_map,c2];rfl
      have o1:Hid (∀W,Below wr.heap.size wr W→W.rangeAt b9 (a0+i*192+64) (u8s s.pay)):=fun W hW=>(zd4 (g1.o.belo (HE.o.trans (hW.mono HE.o.size))) j4.o c2 om 64 s.pay (Sp.pay_at i2)).2
      have e8:Hid (s.pay.length=32):=i2.2.2.1
      have l1:Hid (((smPays xs hs).take i).flatten++s.pay=((smPays xs hs).take (i+1)).flatten):=by
       show _=_
       rw[List.take_add_one,o0]
       simp
      have c7:Hid (((smPays xs hs).take i).flatten.length=i*32):=by
       show _=_
       have h5:∀l:List (List UInt8),(∀x∈l,x.length=32)→l.flatten.length=l.length*32:=fun l h=>by
        induction l with
        | nil=>rfl
        | cons a l ih=>rw[List.flatten_cons,la9,h a sy,ih (fun x hx=>h x (by simp[hx])),List.length_cons];omega
       rw[h5 _ (fun x hx=>n6.o x (List.mem_of_mem_take hx)),List.length_take,n1.o]
       congr 1
       omega
      have l7:Hid (splice (u8s ((smPays xs hs).take i).flatten++rep ((k+1-i)*32) (.int .u8 0)) (0+i*32) (u8s s.pay)=u8s ((smPays xs hs).take (i+1)).flatten++rep ((k+1-(i+1))*32) (.int .u8 0)):=by
       show _=_
       have h5:=zhw ((smPays xs hs).take i).flatten s.pay (k+1) i c7.o e8.o hlt;rw[tk (l:=u8s s.pay) (by rw[zaa,e8.o];exact lr),l1.o]at h5;rw[Nat.zero_add];exact h5
      have o2:Hid (0+i*32+(u8s s.pay).length≤(u8s ((smPays xs hs).take i).flatten++rep ((k+1-i)*32) (.int .u8 0:Value)).length):=by
       show _≤_
       rw[la9,zaa,zaa,e8.o,c7.o,zao];omega
      have k3:Hid ((Tryz.prog.info? 27).map (·.size)=some (u8s s.pay).length):=by show _=_;rw[zaa,e8.o];exact hd24
      have h9:Hid ((soC (xs.drop 64) (smOwn xs) (some ⟨g,0,none⟩) (k+1) (k+1))[48]? = some (.slice (some ⟨g,0,none⟩) (k+1) (k+1))):=by
       show _=_
       rw[soC,ar9 (by rw[zaa,List.length_drop,D.o];omega),ar9 (by simp only[zaa,List.length_drop,D.o,X.o];omega)]
       simp[zaa,List.length_drop,D.o,X.o]
      have HV:Hid (Below wr.heap.size wr { wr with drawn:=wr.drawn+1 }):=(Below.refl _ wr).drew;clear c2 o0 i2;generalize s.pay=PY at *
      go_upto_region 27 with fail
      refine kgo kr 10 (fun W=>Below wr.heap.size wr W) HV.o (fun _ _ _ _ _ h=>h) ?_;refine kp 0 (.pointer (some ⟨a2,48,none⟩)) rfl kr (fun _=>kr) ?_;refine kl 1 (.slice (some ⟨g,0,none⟩) (k+1) (k+1)) rfl kr (fun w' hw'=>za0 (t:=35) (x:=.tmp 109) rr kr agKb (((HS.o.below hw' HS.o.lt).cell 48).trans h9.o)) ?_;refine kp 2 (.int .i64 (i:Int)) rfl kr (fun _=>kr) ?_;refine kp 3 (.slice (some ⟨b9,a0,none⟩) (k+1) c9) rfl kr (fun _=>kr) ?_;refine kp 4 (.int .i64 (i:Int)) rfl kr (fun _=>kr) ?_;refine kp 5 (.pointer (some ⟨b9,a0+i*192,none⟩)) rfl kr (fun _=>zby (t:=74) (e:=83) (x:=.tmp 112) (y:=.tmp 113) (n:=k+1) (c:=c9) (p:=i) (sz:=192) rr kr kr hlt Tryz.underlying74 szSp) ?_;refine kp 6 (.pointer (some ⟨b9,a0+i*192,none⟩)) rfl kr (fun _=>kr) ?_;refine kp 7 (.pointer (some ⟨b9,a0+i*192+64,none⟩)) rfl kr (fun _=>kr) ?_;refine kl 8 (.agg (u8s PY).toArray) rfl kr (fun w' hw'=>zaf (x:=.tmp 116) rr kr (run_loadAt_mid w' b9 (a0+i*192+64) 27 (u8s PY) _ (o1.o w' hw') Tryz.underlying27 rfl k3.o)) ?_;refine kp 9 (.pointer (some ⟨g,0+i*32,none⟩)) rfl kr (fun _=>zby (t:=35) (e:=27) (x:=.tmp 110) (y:=.tmp 111) (n:=k+1) (c:=k+1) (p:=i) (sz:=32) rr kr kr hlt Tryz.underlying35 szKb) ?_;intro q8 q9;clear q8 q9;refine AnyK.storeAt 10 g (0+i*32) (u8s PY) 27 _ _ rr rfl rfl rr kr kr kr (by exact HZ.o.drew) k3.o (zac _) o2.o l7.o (fun _ _ _ h=>(by cases h)) ?_;intro t4 g2 G;have m6:=qh g2;have r8:=qh (G.blk HS.o.drew (fun e=>k5 e.symm));have p5:=qh (G.below HE.o.drew e4.o HE.o.drew.size)
      have k9:Hid (Mk5 w t4 (xs.take 32) (smOwn xs) CL):=by
       have hq:=e4.o;have hm:=HM.o.drew;exact⟨G.blk hm.blk om,G.blk hm.sto om,G.blk hm.sca om,G.blk hm.own om,G.blk hm.cmd om,G.below hm.bel om hm.bel.size⟩
      have p1:=qh (G.blk HB.o.drew (by have:=e4.o;omega));refine AnyK.done kr ?_;clear g2 G HV o1 l7 o2 k3 h9 l1 c7
      go_wp2_with fail
      go_roundg (k+1-(i+1))
      case measure=>have:=s7.o;omega
      case rel=>exact⟨i+1,by omega,rfl,by go_num,m6,r8,p5,k9,p1⟩
    · obtain rfl:i=k+1:=om
      have r6:¬(((k+1:Nat):Int)<(k:Int)+1):=om;rw[show((k+1:Nat):Int)=(k:Int)+1 from rfl]
      have t1:Hid (Blk wr g 27 (u8s (smPays xs hs).flatten)):=by
       have h5:=HZ.o;rw[tk (by rw[n1.o];exact lr),Nat.sub_self,Nat.zero_mul,show rep 0 (.int .u8 0:Value)=[] from rfl,List.append_nil]at h5;exact h5
      have I:(smL xs hs).length=328:=by rw[smL,la9,la9,Sh.beBytes_len,a5.o,X.o]
      have b5:Hid ((Tryz.prog.info? 34).map (·.size)=some (blkCells (smL xs hs)).length):=by show _=_;rw[zbe _ I];exact hd37
      have f0:Hid ((blkCells (smL xs hs)).length=z37.length):=by show _=_;rw[zbe _ I,zdq]
      have e2:Hid ((soC (xs.drop 64) (smOwn xs) (some ⟨g,0,none⟩) (k+1) (k+1)).length=zSo.length):=by show _=_;rw[zdr (by rw[List.length_drop,D.o]) X.o,zc0]
      have s6:Hid (∀W,Blk W b4 34 (blkCells (smL xs hs))→(ldAt 34 (.pointer (some ⟨b4,0,none⟩))).run Tryz.prog W=.ok (.agg (blkCells (smL xs hs)).toArray) W):=fun W h=>zal h 34 0 _ (by rw[List.drop_zero,List.take_length]) _ Tryz.underlying34 rfl b5.o
      have t3:Hid (∀W,Blk W a2 37 (soC (xs.drop 64) (smOwn xs) (some ⟨g,0,none⟩) (k+1) (k+1))→(ldAt 37 (.pointer (some ⟨a2,0,none⟩))).run Tryz.prog W=.ok (.agg (soC (xs.drop 64) (smOwn xs) (some ⟨g,0,none⟩) (k+1) (k+1)).toArray) W):=fun W h=>zal h 37 0 _ (by rw[List.drop_zero,List.take_length]) _ Tryz.underlying37 rfl (e1.o g)
      have v5:r.heap.size≤g:=e4.o;have v1:r.heap.size≤a2:=k4.o;clear HZ I n6
      go_upto_region 29 with fail
      refine kgo kr 3 (fun w'=>Blk w' b4 34 (blkCells (smL xs hs))∧Blk w' a2 37 (soC (xs.drop 64) (smOwn xs) (some ⟨g,0,none⟩) (k+1) (k+1))) (⟨HB.o.drew,HS.o.drew⟩) (fun _ _ _ _ _ h=>h) ?_;refine kl 0 (.agg (blkCells (smL xs hs)).toArray) rfl kr (fun w' hw'=>zaf (x:=.tmp 18) rr kr (s6.o _ hw'.1)) ?_;refine kl 1 (.agg (soC (xs.drop 64) (smOwn xs) (some ⟨g,0,none⟩) (k+1) (k+1)).toArray) rfl kr (fun w' hw'=>zaf (x:=.tmp 19) rr kr (t3.o _ hw'.2)) ?_;intro q8 q9;clear q8 q9;refine AnyK.storeAll 2 w.heap.size (blkCells (smL xs hs)) 34 z37 rr rfl rfl rr kr kr kr HM.o.drew.blk b5.o (zcz _) f0.o (fun _ _ ho _=>⟨ho.blk HB.o.drew om,ho.blk HS.o.drew om⟩) ?_;intro v9 h4 a7;have r7:=qh (a7.blk HM.o.drew.sto om);have m1:=qh (a7.blk t1.o.drew om);have f5:=qh (a7.below HM.o.drew.bel lr HM.o.drew.bel.size);have k8:=qh h4;refine AnyK.storeAll 3 (w.heap.size+1) (soC (xs.drop 64) (smOwn xs) (some ⟨g,0,none⟩) (k+1) (k+1)) 37 zSo rr rfl rfl rr kr kr kr r7.o (e1.o g) (zd5 _ _ _ _ _) e2.o (fun _ _ _ h=>(by cases h)) ?_;intro t8 f7 b2;have q3:=qh (b2.blk m1.o om);have m2:=qh (b2.below f5.o om f5.o.size);have p4:=qh (b2.blk k8.o om);have l8:=qh f7;refine AnyK.val 4 (v:=.int .i64 0) rr kr rfl kr (fun h=>(by cases h)) ?_;refine AnyK.done kr ?_;clear h4 a7 f7 b2;go_wp2;have b1:SmP w xs hs (k+1) (.returned (.tuple #[.agg (blkCells (smL xs hs)).toArray,.agg (soC (xs.drop 64) (smOwn xs) (some ⟨g,0,none⟩) (k+1) (k+1)).toArray,.int .i64 0])) t8:=⟨.inr ⟨p9.o,g,rfl,by omega,q3.o⟩,m2.o⟩;exact bodyPost_ret (zmf (p:=4) (p2:=5) (u:=6) (ty:=34) (ty2:=37) rfl _ w.heap.size (w.heap.size+1) _ _ (blkCells (smL xs hs)) (soC (xs.drop 64) (smOwn xs) (some ⟨g,0,none⟩) (k+1) (k+1)) kr kr p4.o l8.o _ _ Tryz.underlying34 rfl b5.o Tryz.underlying37 rfl (e1.o g)) rfl b1
 · have c2:¬((scE (xs.take 32) hs:Nat):Int)=0:=om
   have s8:=qh hsc;clear hsc i8;have b1:∀W,Below w.heap.size w W→SmP w xs hs (k+1) (.returned (.tuple #[.agg z37.toArray,.agg zSo.toArray,.int .i64 (scE (xs.take 32) hs:Int)])) W:=fun W h=>⟨.inl ⟨s8.o,rfl⟩,h⟩
   have v0:=qh b1;clear b1;generalize scE (xs.take 32) hs=SE at *
   go_wp2_with (first
    | (refine zai rfl 34 [] rfl [] rr _ (zlz _) ?_)
    | (refine zai rfl 37 [] rfl [] rr _ (bldSo _) ?_)
    | (refine zab rfl 34 (.tmp 4) (.tmp 74) rfl w.heap.size z37 rr rr 34 z37 (by exact b7.o.blk) f4.o zqd rfl ?_;intro d6 b3 e0;have p7:=qh b3;have k6:=qh (e0.blk b7.o.sto om);have g8:=qh (e0.below b7.o.bel lr b7.o.bel.size);clear b3 e0)
    | (refine zab rfl 37 (.tmp 5) (.tmp 75) rfl (w.heap.size+1) zSo rr rr 37 zSo (by exact k6.o) g7.o (zd5 _ _ _ _ _) rfl ?_;intro E a6 a3))
   have b3:=a3.blk p7.o om;have l6:=a3.below g8.o om g8.o.size;exact bodyPost_ret (zmf (p:=4) (p2:=5) (u:=6) (ty:=34) (ty2:=37) rfl _ w.heap.size (w.heap.size+1) _ _ z37 zSo kr kr b3 a6 _ _ Tryz.underlying34 rfl f4.o Tryz.underlying37 rfl g7.o) rfl (v0.o _ l6)
end
section
theorem zyq(x y:Value):binOp .neq 28 x y=neAt 28 x y:=rfl
theorem zyp(x y:Value):binOp .neq 27 x y=neAt 27 x y:=rfl
attribute [local go_sem ↓] zfx zb0 zyq zyp
theorem zn8{P:Program}{t e:TypeId}{n:Nat}{i:TypeInfo}(hu:P.underlying t=some (.array n e))(hi:P.info? e=some i)(hc:P.cellsOf e=1)(he:P.plainKey e=true)(r:P.underlying e=some (.int .u8))(a:List UInt8)(ha:a.length=n)(w:World):
 (neAt t (.agg (u8s a).toArray) (.agg (u8s a).toArray)).run P w=.ok (.bool false) w:=by
 unfold neAt
 rw[run_neq_struct,run_equalIn_array w 9999 _ _ hu hi,hc,List.range_eq_range',←ha,zfo 9998 e he r a a rfl w a.length 0 om]
 simp
theorem zqi:∃i,Tryz.prog.info? 5 = some i:=by
 have h:(Tryz.prog.info? 5).isSome=true:=by kernel_rfl
 exact Option.isSome_iff_exists.1 h
theorem ne16c(a:List UInt8)(ha:a.length=16)(w:World):(neAt 28 (.agg (u8s a).toArray) (.agg (u8s a).toArray)).run Tryz.prog w=.ok (.bool false) w:=by
 obtain⟨i,hi⟩:=zqi;exact zn8 Tryz.underlying28 hi kr kr Tryz.underlying5 a ha w
theorem ne32b(a:List UInt8)(ha:a.length=32)(w:World):(neAt 27 (.agg (u8s a).toArray) (.agg (u8s a).toArray)).run Tryz.prog w=.ok (.bool false) w:=by
 obtain⟨i,hi⟩:=zqi;exact zn8 Tryz.underlying27 hi kr kr Tryz.underlying5 a ha w
theorem zns{mark own:List UInt8}(h1:mark.length=16)(h2:own.length=32)(A:Option Addr)(m c:Nat):(soC mark own A m c)[48]? = some (.slice A m c):=by
 rw[soC,ar9 (by rw[zaa];omega),ar9 (by simp only[zaa];omega)]
 simp[zaa,h1,h2]
theorem znr{mark own:List UInt8}(r:mark.length=16)(A:Option Addr)(m c:Nat):((soC mark own A m c).drop 0).take (u8s mark).length=u8s mark:=by rw[List.drop_zero,soC,List.take_left' rfl]
theorem zqv{mark own:List UInt8}(h1:mark.length=16)(A:Option Addr)(m c:Nat):((soC mark own A m c).drop 16).take (u8s own).length=u8s own:=by rw[soC,List.drop_left' (by rw[zaa,h1]),List.take_left' rfl]
theorem zle{w:World}{A:Option Addr}{m:Nat}{ks:List (List UInt8)}(h:RdS 32 w A m (ks.flatMap u8s))(hk:∀k∈ks,k.length=32){i:Nat}{x:List UInt8}(hi:ks[i]? = some x)(hm:0<m):∃b r,A=some ⟨b,r,none⟩∧b<w.heap.size∧w.rangeAt b (r+i*32) (u8s x):=by
 obtain⟨b,r,e,hb,hc⟩:=h.2 hm;refine⟨b,r,e,hb,fun j v hv=>?_⟩;have h1:=zd1 (f:=u8s) (sz:=32) (fun a ha=>by rw[zaa];exact hk a ha) hi hv;rw[Nat.add_assoc];exact hc _ _ h1
theorem hd32b:(Tryz.prog.info? 27).map (·.size)=some 32:=by kernel_rfl
theorem hd16d:(Tryz.prog.info? 28).map (·.size)=some 16:=by kernel_rfl
theorem znt(mark own:List UInt8)(A B:Option Addr)(m c d:Nat)(ks:List (List UInt8))(w:World)(h1:mark.length=16)(h2:own.length=32)(hA:RdS 32 w A m (ks.flatMap u8s))(hB:RdS 32 w B m (ks.flatMap u8s))(hk:∀k∈ks,k.length=32)(hl:ks.length=m)(hm:m≤1000000):
 Calls Tryz.prog 14 #[.agg (soC mark own A m c).toArray,.agg (soC mark own B m d).toArray] w fun e w'=>e=.returned (.bool true)∧Below w.heap.size w w':=by
 have M:=qh (zns h1 h2 A m c);have a3:=qh (zns h1 h2 B m d);have a6:=qh (znr h1 (own:=own) A m c);have J:=qh (znr h1 (own:=own) B m d);have a4:=qh (zqv h1 (own:=own) A m c);have X:=qh (zqv h1 (own:=own) B m d);have b6:=ne16c mark h1;have b7:=ne32b own h2;have I:=fun(x:List UInt8) (hx:x∈ks)=>ne32b x (hk x hx)
 have a9:=qh I;have a7:(Tryz.prog.info? 28).map (·.size)=some (u8s mark).length:=by rw[zaa,h1];exact hd16d
 have V:(Tryz.prog.info? 27).map (·.size)=some (u8s own).length:=by rw[zaa,h2];exact hd32b
 have E:=qh a7;have r:=qh V;obtain⟨C,hC⟩:=ex9 (soC mark own A m c);obtain⟨D,hD⟩:=ex9 (soC mark own B m d);rw[←hC]at M a6 a4 ⊢;rw[←hD]at a3 J X ⊢;have b1:Blk ((w.alloc (.cells C.toArray 37)).alloc (.cells D.toArray 37)) w.heap.size 37 C:=(Blk.new w _ _).alloc _;have b2:Blk ((w.alloc (.cells C.toArray 37)).alloc (.cells D.toArray 37)) (w.heap.size+1) 37 D:=Blk.new' sy rfl;have a2:RdS 32 ((w.alloc (.cells C.toArray 37)).alloc (.cells D.toArray 37)) A m (ks.flatMap u8s):=(hA.allo _).allo _;have a1:RdS 32 ((w.alloc (.cells C.toArray 37)).alloc (.cells D.toArray 37)) B m (ks.flatMap u8s):=(hB.allo _).allo _;have hE:Below w.heap.size w ((w.alloc (.cells C.toArray 37)).alloc (.cells D.toArray 37)):=((Below.refl _ w).alloc lr _).alloc sy _;have l1:=zal b1 28 0 (u8s mark) a6.o _ Tryz.underlying28 rfl E.o;have l2:=zal b2 28 0 (u8s mark) J.o _ Tryz.underlying28 rfl E.o;have l3:=zal b1 27 16 (u8s own) a4.o _ Tryz.underlying27 rfl r.o;have l4:=zal b2 27 16 (u8s own) X.o _ Tryz.underlying27 rfl r.o;have c1:((w.alloc (.cells C.toArray 37)).alloc (.cells D.toArray 37)).cell? ⟨w.heap.size,48,none⟩=some (.slice A m c):=(b1.cell 48).trans M.o;have c2:((w.alloc (.cells C.toArray 37)).alloc (.cells D.toArray 37)).cell? ⟨w.heap.size+1,48,none⟩=some (.slice B m d):=(b2.cell 48).trans a3.o;have b5:=qh a2;have b4:=qh a1;have HE:=qh hE;have HL:=qh hl;have HK:=qh hk;clear hA hB a2 a1 hE I a7 V hC hD hk hl h1 h2 b1 b2
 go_enter Tryz.func14, Tryz.ntmps14
 go_wp2_with fail
 have b3:=HE;generalize (w.alloc (.cells C.toArray 37)).alloc (.cells D.toArray 37)=W at *
 go_loopg [5] m (fun kk q wr=>∃i:Nat,i≤m∧kk=m-i∧q=.int .i64 i∧∃nq,wr=W.drewN nq)
 case atStart=>exact⟨0,Nat.zero_le _,rfl,rfl,0,rfl⟩
 case round =>
  obtain⟨i,hi,Y,rfl,nq,rfl⟩:=hrel;have a8:=qh Y;clear Y
  by_cases hlt:i<m
  · have a5:(i:Int)<(m:Int):=om
    obtain⟨x,hx⟩:∃x,ks[i]? = some x:=⟨_,ge9 (by rw[HL.o];exact hlt)⟩;have G:=mg9 hx;obtain⟨ba,oa,rfl,c0,U⟩:=zle b5.o HK.o hx om;obtain⟨bb,ob,rfl,c3,a0⟩:=zle b4.o HK.o hx om;have hI:(Tryz.prog.info? 27).map (·.size)=some (u8s x).length:=by rw[zaa,HK.o x G];exact hd32b
    have l5:∀n,(ldAt 27 (.pointer (some ⟨ba,oa+i*32,none⟩))).run Tryz.prog (W.drewN n)=.ok (.agg (u8s x).toArray) (W.drewN n):=fun n=>run_loadAt_mid (W.drewN n) ba (oa+i*32) 27 (u8s x) _ U Tryz.underlying27 rfl hI
    have l6:∀n,(ldAt 27 (.pointer (some ⟨bb,ob+i*32,none⟩))).run Tryz.prog (W.drewN n)=.ok (.agg (u8s x).toArray) (W.drewN n):=fun n=>run_loadAt_mid (W.drewN n) bb (ob+i*32) 27 (u8s x) _ a0 Tryz.underlying27 rfl hI
    have b9:=a9.o x G;clear hx G U a0 hI;generalize u8s x=PX at *
    go_wp2_with fail
    go_quiet (fail)
    go_wp2_with fail
    go_roundg (m-(i+1))
    case measure=>have:=a8.o;omega
    case rel=>exact⟨i+1,by omega,rfl,by go_num,_,rfl⟩
  · have a5:¬(i:Int)<(m:Int):=om
    go_wp2_with fail
    go_ret;exact⟨rfl,Below.drewN' b3.o nq⟩
end
section
attribute [local go_sem ↓] zch
theorem zre(last:Cm)(hc:last.ok)(A:Option Addr)(n c:Nat)(hs:List Ho)(w:World)(h:RdS 68 w A n (hs.flatMap Ho.cells))(a9:∀s∈hs,s.ok)(hl:hs.length=n)(hn:n≤140737488355328)(a3:¬(¬(last.k.toNat<2∨4<last.k.toNat)∧(∀(i:Nat) (o:Ho),hs[i]? = some o→o.bad=false)∧¬(hs.length<1∨5<hs.length)∧last.shaped=true)):
 Calls Tryz.prog 29 #[.agg last.cells.toArray,.slice A n c] w fun e w'=>e=.returned (.tuple #[.slice none 0 0,.int .i64 (pathE last hs:Int)])∧Below w.heap.size w w':=by
 by_cases hk:last.k.toNat<2∨4<last.k.toNat
 · rw[zr7 hk]
   obtain⟨C,hC⟩:=ex9 (last.cells);have c0:(w.alloc (.cells C.toArray 63)).cell? ⟨w.heap.size,0,none⟩=some (.int .u8 last.k.toNat):=by rw[(Blk.new w _ _).cell,hC];rfl
   rw[←hC];clear hC;generalize last.k.toNat=K at *;have HE:Hid (Below w.heap.size w (w.alloc (.cells C.toArray 63))):=(Below.refl _ w).alloc lr _
   by_cases h2:K<2
   · have b5:(K:Int)<2:=om
     clear hk
     go_enter Tryz.func29, Tryz.ntmps29
     go_wp2;go_ret2;exact⟨rfl,HE.o⟩
   · have b5:¬(K:Int)<2:=om
     have c2:(K:Int)>4:=om;clear hk
     go_enter Tryz.func29, Tryz.ntmps29
     go_wp2;go_ret2;exact⟨rfl,HE.o⟩
 have U:=qh (fun(i:Nat) (o:Ho) (hi:hs[i]? = some o) (hb:o.bad=true)=>zr6 hk hi hb);have I:=qh (fun h2 h3=>zr5 (hs:=hs) hk h2 h3);have M:=qh (fun h2 h3 h4=>zr4 (hs:=hs) hk h2 h3 h4);have a1:=qh (fun h2 h3 h4 (i:Nat) (o:Ho) h5 (hi:hs[i]? = some o) ho=>zmo hk h2 h3 h4 h5 hi ho);have Y:=qh (fun h2 h3 h4 h5=>zmn (hs:=hs) hk h2 h3 h4 h5);have a4:Hid (∀W,Calls Tryz.prog 57 #[.agg last.cells.toArray] W fun e w'=>e=.returned (.bool (!(decide (last.m=List.replicate 16 0))))∧Below W.heap.size W w'):=fun W=>zfw last hc W
 have a7:last.shaped=false→last.n≠0∨(last.n=0∧last.k.toNat≠4∧(!(decide (last.m=List.replicate 16 0)))=true):=fun h=>by
  have b3:last.k≠1:=fun e=>by rw[e]at hk;exact hk (Or.inl (by decide))
  unfold Cm.shaped at h
  by_cases hn0:last.n=0
  · refine .inr ⟨hn0,?_,?_⟩
    · intro e4
      have:last.k=4:=UInt8.toNat_inj.1 e4
      simp[hn0,this]at h
    · simp[hn0,b3]at h
      simp[h.2]
  · exact .inl hn0
 have a6:=qh (Cm.cells_len hc);obtain⟨C,hC⟩:=ex9 (last.cells);have X:Hid (Blk (w.alloc (.cells C.toArray 63)) w.heap.size 63 C):=Blk.new w _ _;have c0:(w.alloc (.cells C.toArray 63)).cell? ⟨w.heap.size,0,none⟩=some (.int .u8 last.k.toNat):=by rw[X.o.cell,hC];rfl
 have b2:=hC;rw[←hC]at a4 a6 ⊢;clear hC;have c3:(w.alloc (.cells C.toArray 63)).cell? ⟨w.heap.size,3,none⟩=some (.int .u64 (last.n:Int)):=by rw[X.o.cell,b2];rfl
 have b6:=qh a3;have b4:=qh hk;have b9:=qh a7;clear a3 a7;have k2:¬(last.k.toNat:Int)<2:=om;have k4:¬(last.k.toNat:Int)>4:=om;clear b2;generalize last.k.toNat=K at *;generalize last.n=N3 at *;generalize (!(decide (last.m=List.replicate 16 0)))=MK at *;generalize pathE last hs=E at *;generalize last.shaped=SH at *;have HE:Hid (Below w.heap.size w (w.alloc (.cells C.toArray 63))):=(Below.refl _ w).alloc lr _;have HR:=qh (h.bel HE.o lr);have HK:=qh a9;have HL:=qh hl;clear h a9 hl hk hc
 go_enter Tryz.func29, Tryz.ntmps29
 go_wp2
 go_loop [6] (fun q=>∃k:Nat,k≤n∧q=.int .i64 k∧Hid (∀(i:Nat) (o:Ho),i<k→hs[i]? = some o→o.bad=false)) (fun q=>n-(intOf q).toNat)
 case atStart=>exact⟨0,Nat.zero_le _,rfl,fun i o hi=>absurd hi om⟩
 case round =>
  obtain⟨k,c1,rfl,HI⟩:=hrel
  by_cases hlt:k<n
  · have a8:(k:Int)<(n:Int):=om
    obtain⟨o,ho⟩:∃o,hs[k]? = some o:=⟨_,ge9 (by rw[HL.o];omega)⟩;have V:=HK.o o (mg9 ho);obtain⟨b,c4,rfl,c6,J⟩:=zbl HR.o HK.o ho om;have c7:=J 66 _ (Ho.at_dl V);have c5:=J 67 _ (Ho.at_fl V)
    by_cases hbad:o.bad=true
    · have he:=U.o k o ho hbad
      have hw:=Ho.bad_ways hbad;subst he;generalize o.dl=D at *;generalize o.fl=F at *;have c8:Hid (hs[k]? = some o):=ho;clear ho V J hbad U I M a1 Y
      rcases hw with g1|⟨g1,g2⟩|⟨g1,g2,g3⟩|⟨g1,g2,g3,g4⟩ <;>
        (go_wp2;go_ret2;exact⟨rfl,HE.o⟩)
    · have r:o.bad=false:=by simpa using hbad
      obtain⟨g1,g2,g3,g4⟩:=Ho.bad_no r
      have G:Hid (∀(i:Nat) (o:Ho),i<k+1→hs[i]? = some o→o.bad=false):=fun i o' hi hio=>by
       rcases Nat.lt_or_ge i k with h|h
       · exact HI.o i o' h hio
       · obtain rfl:i=k:=om
         rw[ho]at hio
         injection hio with hio
         subst hio;exact r
      generalize o.dl=D at *;generalize o.fl=F at *;have i1:¬D<0:=om;have i2:¬D>1000000:=om;have i3:¬F<0:=om;have i4:¬F>255:=om;clear ho V J hbad r g1 g2 g3 g4;go_wp2
      go_round
      case rel=>exact⟨k+1,by omega,by go_num,G⟩
      case measure=>simp[intOf];omega
  · have:k=n:=om
    subst this;have a8:¬(k:Int)<(k:Int):=om;have G:Hid (∀(i:Nat) (o:Ho),hs[i]? = some o→o.bad=false):=fun i o hi=>HI.o i o (by have:=(gi9.1 hi).1;rw[HL.o]at this;exact this) hi
    clear HI
    by_cases h5:k<1∨5<k
    · have he:=I.o G.o (by rw[HL.o];exact h5)
      subst he;clear U I M a1 Y
      rcases Nat.lt_or_ge k 1 with h6|h6
      · have h7:(k:Int)<1:=om
        go_wp2;go_ret2;exact⟨rfl,HE.o⟩
      · have h7:¬(k:Int)<1:=om
        have h8:(k:Int)>5:=om;go_wp2;go_ret2;exact⟨rfl,HE.o⟩
    · have h7:¬(k:Int)<1:=om
      have h8:¬(k:Int)>5:=om;have b1:Hid (¬(hs.length<1∨5<hs.length)):=by show ¬_;rw[HL.o];exact h5
      have c9:(ldAt 63 (.pointer (some ⟨w.heap.size,0,none⟩))).run Tryz.prog (w.alloc (.cells C.toArray 63))=.ok (.agg C.toArray) (w.alloc (.cells C.toArray 63)):=cm_ld X.o a6.o;clear h5
      have a0:SH=false:=by
       cases hq:SH with
       | false=>rfl
       | true=>exact absurd ⟨b4.o,G.o,b1.o,hq⟩ b6.o
      have he:=M.o G.o b1.o a0;subst he;have a2:=b9.o a0;clear U I M a1 Y a0
      rcases a2 with g1|⟨g1,g2,g3⟩
      · have i1:¬(N3:Int)=0:=om
        go_wp2;go_ret2;exact⟨rfl,HE.o⟩
      · have i1:(N3:Int)=0:=om
        have i2:¬(K:Int)=4:=om;subst g3
        go_wp2_with (go_at_call 57;(refine(a4.o _).mono ?_);rintro e w2 ⟨rfl,a5⟩;have b7:=qtr HE a5;clear a5)
        go_ret2;exact⟨rfl,b7.o⟩
end
section
attribute [local go_sem ↓] zch zfs zl5 zmy
theorem iCmz:ElemIs Tryz.prog 63 20 32:=ElemIs.of iCm (by show Cm.zero.cells.toArray.size=20;rw[List.size_toArray,Cm.cells_len Cm.zero_ok]) om
def cm3(F D:Int):List Value:=[.int .u8 1,.int .u8 F,.int .u32 D,.int .u64 0]++u8s (List.replicate 16 0)
theorem zzh(F D:Int):∀v∈cm3 F D,v.oneCell'=true:=by
 intro v hv;simp only[cm3,List.cons_append,List.nil_append,List.mem_cons]at hv
 rcases hv with rfl|rfl|rfl|rfl|hv
 · rfl
 · rfl
 · rfl
 · rfl
 · exact zac _ v hv
theorem zzn(F D:Int)(w:World):(Instr.build 63 [(0,(.int .u8 1:Value)),(1,.int .u8 F),(2,.int .u32 D)].toArray).run Tryz.prog w=.ok (.agg (cm3 F D).toArray) w:=by kernel_rfl
theorem zta{o:Oper}{a:Act}{w:World}{t1 t2:TypeId}{x:Operand}{v u:Value}(ho:o.op=.convert t1 t2 x)(hx:a.eval x=v)(hr:(convert t1 t2 v).run Tryz.prog w=.ok u w):(execOp a.eval o).run Tryz.prog w=.ok (.value u) w:=by
 unfold execOp
 simp[ho,hx,hr]
theorem zzg(F:Int)(h:IntKind.u8.wrap F=F)(w:World):(convert 3 5 (.int .i64 F)).run Tryz.prog w=.ok (.int .u8 F) w:=by
 have:(convert 3 5 (.int .i64 F)).run Tryz.prog w=.ok (.int .u8 (IntKind.u8.wrap F)) w:=by kernel_rfl
 rw[this,h]
theorem zv3(F:Int)(h:IntKind.u32.wrap F=F)(w:World):(convert 3 61 (.int .i64 F)).run Tryz.prog w=.ok (.int .u32 F) w:=by
 have:(convert 3 61 (.int .i64 F)).run Tryz.prog w=.ok (.int .u32 (IntKind.u32.wrap F)) w:=by kernel_rfl
 rw[this,h]
end
section
attribute [local go_sem ↓] zch zfs zl5 zmy
theorem z1cmp:(Tryz.prog.info? 63).map (fun i=>((i.zero.map (fun z=>z.cells.size)),i.size))=some (some 20,20):=by kernel_rfl
theorem szHo(w:World):(sizeOf 85).run Tryz.prog w=.ok 68 w:=by kernel_rfl
theorem agI64r(w:World):(isAgg 3).run Tryz.prog w=.ok false w:=by kernel_rfl
theorem zye{last:Cm}{hs:List Ho}{k:Nat}{o o2:Ho}(ho:hs[k]? = some o)(r:hs[k+1]? = some o2)(hb:o.bad=false):(cm3 o.fl o.dl).set 3 (.int .u64 (o2.id:Int))=(pathC last hs k).cells:=by
 obtain⟨g1,g2,g3,g4⟩:=Ho.bad_no hb;have hl:k+1<hs.length:=(gi9.1 r).1;have e:pathC last hs k=⟨1,UInt8.ofNat o.fl.toNat,o.dl.toNat,o2.id,List.replicate 16 0⟩:=by unfold pathC;rw[ho,r];simp only[if_pos hl];rfl
 rw[e];simp only[Cm.cells,cm3,List.cons_append,List.nil_append,List.set_cons_succ,List.set_cons_zero];have q1:o.dl=(o.dl.toNat:Int):=om;have q2:o.fl=((UInt8.ofNat o.fl.toNat).toNat:Int):=by simp;omega
 rw[←q1,←q2]
 rfl
theorem zyd{last:Cm}{hs:List Ho}{k:Nat}{o:Ho}(ho:hs[k]? = some o)(hl:¬k+1<hs.length)(hb:o.bad=false)(hm:last.m.length=16):splice ((cm3 o.fl o.dl).set 0 (.int .u8 last.k.toNat)) 4 (u8s last.m)=(pathC last hs k).cells:=by
 obtain⟨g1,g2,g3,g4⟩:=Ho.bad_no hb;have e:pathC last hs k=⟨last.k,UInt8.ofNat o.fl.toNat,o.dl.toNat,0,last.m⟩:=by unfold pathC;rw[ho];simp only[if_neg hl]
 rw[e]
 unfold splice
 rw[zaa,hm];simp only[Cm.cells,cm3,List.cons_append,List.nil_append,List.set_cons_zero];have q1:o.dl=(o.dl.toNat:Int):=om;have q2:o.fl=((UInt8.ofNat o.fl.toNat).toNat:Int):=by simp;omega
 rw[←q1,←q2]
 simp[u8s]
theorem zi2{last:Cm}{hs:List Ho}(k:Nat):((List.range k).map (pathC last hs)).flatMap Cm.cells++(pathC last hs k).cells=((List.range (k+1)).map (pathC last hs)).flatMap Cm.cells:=by
 rw[List.range_succ,List.map_append,List.flatMap_append]
 simp
theorem zrd(last:Cm)(hc:last.ok)(A:Option Addr)(n c:Nat)(hs:List Ho)(w:World)(h:RdS 68 w A n (hs.flatMap Ho.cells))(b6:∀s∈hs,s.ok)(hl:hs.length=n)(hk:¬(last.k.toNat<2∨4<last.k.toNat))(d3:∀s∈hs,s.bad=false)(h1:1≤n)(h5:n≤5)(a3:last.shaped=true):
 Calls Tryz.prog 29 #[.agg last.cells.toArray,.slice A n c] w fun e w'=>∃A' n' c',e=.returned (.tuple #[.slice A' n' c',.int .i64 (pathE last hs:Int)])∧n'≤c'∧(pathE last hs=0→n'=n∧RdS 20 w' A' n ((pathL last hs).flatMap Cm.cells))∧Below w.heap.size w w':=by
 have a1:last.n=0∧(last.k.toNat=4∨(¬last.k.toNat=4∧(!(decide (last.m=List.replicate 16 0)))=false)):=by
  have j3:last.k≠1:=fun e=>by rw[e]at hk;exact hk (Or.inl (by decide))
  unfold Cm.shaped at a3
  by_cases a2:last.n=0
  · refine⟨a2,?_⟩
    by_cases e4:last.k.toNat=4
    · exact .inl e4
    · refine .inr ⟨e4,?_⟩
      have h4:last.k≠4:=fun e=>e4 (by rw[e];rfl)
      simp[a2,j3,h4]at a3
      simp[a3]
  · simp[a2,j3]at a3
 have c4:Hid (∀W,Calls Tryz.prog 57 #[.agg last.cells.toArray] W fun e w'=>e=.returned (.bool (!(decide (last.m=List.replicate 16 0))))∧Below W.heap.size W w'):=fun W=>zfw last hc W
 have j9:=qh (Cm.cells_len hc);obtain⟨C,hC⟩:=ex9 (last.cells);have e6:=qh hC;have V:Hid (Blk (w.alloc (.cells C.toArray 63)) w.heap.size 63 C):=Blk.new w _ _;have c0:(w.alloc (.cells C.toArray 63)).cell? ⟨w.heap.size,0,none⟩=some (.int .u8 last.k.toNat):=by rw[V.o.cell,hC];rfl
 have c3:(w.alloc (.cells C.toArray 63)).cell? ⟨w.heap.size,3,none⟩=some (.int .u64 (last.n:Int)):=by rw[V.o.cell,hC];rfl
 rw[←hC]at c4 j9 ⊢;obtain⟨a2,a1⟩:=a1;rw[a2]at c3;have k2:¬(last.k.toNat:Int)<2:=om;have k4:¬(last.k.toNat:Int)>4:=om;have HE:Hid (Below w.heap.size w (w.alloc (.cells C.toArray 63))):=(Below.refl _ w).alloc lr _;have HR:=qh (h.bel HE.o lr);have f9:=qh h;have HK:=qh b6;have HL:=qh hl;have a5:=qh d3;have f4:=qh a1;have n1:¬(n:Int)<1:=om;have n5:¬(n:Int)>5:=om;have j0:=qh hc;have f8:=qh hk;have i9:=qh a3;clear h b6 hl hk hc hC a2 a1 d3 a3
 go_enter Tryz.func29, Tryz.ntmps29
 go_wp2
 go_loop [6] (fun q=>∃k:Nat,k≤n∧q=.int .i64 k) (fun q=>n-(intOf q).toNat)
 case atStart=>exact⟨0,Nat.zero_le _,rfl⟩
 case round =>
  obtain⟨k,l1,rfl⟩:=hrel
  by_cases hlt:k<n
  · have k0:(k:Int)<(n:Int):=om
    obtain⟨o,ho⟩:∃o,hs[k]? = some o:=⟨_,ge9 (by rw[HL.o];omega)⟩;have M:=HK.o o (mg9 ho);obtain⟨b,off,rfl,h7,a0⟩:=zbl HR.o HK.o ho om;have d0:=a0 66 _ (Ho.at_dl M);have b4:=a0 67 _ (Ho.at_fl M);obtain⟨g1,g2,g3,g4⟩:=Ho.bad_no (a5.o o (mg9 ho));generalize o.dl=D at *;generalize o.fl=F at *;have i1:¬D<0:=om;have i2:¬D>1000000:=om;have i3:¬F<0:=om;have i4:¬F>255:=om;clear ho M a0 g1 g2 g3 g4;go_wp2
    go_round
    case rel=>exact⟨k+1,by omega,by go_num⟩
    case measure=>simp[intOf];omega
  · obtain rfl:k=n:=om
    have k0:¬(k:Int)<(k:Int):=om;have m0:((k:Int) == 0)=false:=by rw[beq_eq_false_iff_ne];omega
    have k5:(ldAt 63 (.pointer (some ⟨w.heap.size,0,none⟩))).run Tryz.prog (w.alloc (.cells C.toArray 63))=.ok (.agg C.toArray) (w.alloc (.cells C.toArray 63)):=cm_ld V.o j9.o;have k3:Hid (Blk (w.alloc (.cells C.toArray 63)) w.heap.size 63 C∧Below w.heap.size w (w.alloc (.cells C.toArray 63))):=⟨V.o,HE.o⟩;have d4:Hid (∀W:World,W.ownsRow (w.heap.size+1) 63 20 (.slice none 0 0) 0 (((List.range 0).map (pathC last hs)).flatMap Cm.cells)):=fun W=>World.ownsRow_nil _ _ _ _
    have l7:=qh n1;have l3:=qh n5;have h8:Hid (∀(i:Nat) (o:Ho),0<i→hs[i]? = some o→o.id=0→pathE last hs=3):=fun i o h0 hi ho=>zmo f8.o (fun i o hi=>a5.o o (mg9 hi)) (by rw[HL.o];omega) i9.o h0 hi ho
    have j8:Hid ((∀(i:Nat) (o:Ho),0<i→hs[i]? = some o→o.id≠0)→pathE last hs=0):=fun h=>zmn f8.o (fun i o hi=>a5.o o (mg9 hi)) (by rw[HL.o];omega) i9.o h
    have b5:=qh (fun i=>zfg j0.o HK.o a5.o i);have a7:=qh j0.o.2.2
    go_upto_region 10 with fail
    go_cut [73] (fun v wx=>v=.bool false∧Hid (Blk wx w.heap.size 63 C)∧Hid (Below w.heap.size w wx))
    case first =>
     rcases f4.o with e4|⟨e4,em⟩
     · have i5:(last.k.toNat:Int)=4:=om
       go_wp2
       go_meet
       exact⟨rfl,V,HE⟩
     · have i5:¬(last.k.toNat:Int)=4:=om
       rw[em]at c4;clear f4 em
       go_wp2_with (go_at_call 57;(refine(c4.o _).mono ?_);rintro e w2 ⟨rfl,e3⟩;have c1:=qbl V e3;have c8:=qtr HE e3;clear e3)
       go_meet
       exact⟨rfl,c1,c8⟩
    case rest =>
     obtain⟨rfl,c1,c8⟩:=hcut;clear V f4 c4 k3 HR c0 c3 k5;go_wp2
     go_loopg [7,8] k (fun kk v q wr=>∃j:Nat,j≤k∧kk=k-j∧q=.int .i64 j∧(∃A' c',v=.slice A' j c'∧j≤c'∧Hid (wr.ownsRow (w.heap.size+1) 63 20 (.slice A' j c') j (((List.range j).map (pathC last hs)).flatMap Cm.cells)))∧Hid (Blk wr w.heap.size 63 C)∧Hid (Below w.heap.size w wr)∧Hid (∀(i:Nat) (o:Ho),0<i→i≤j→hs[i]? = some o→o.id≠0))
     case atStart=>exact⟨0,Nat.zero_le _,rfl,rfl,⟨none,0,rfl,lr,d4.o _⟩,c1,c8,fun i o h1 h2=>by omega⟩
     case round =>
      clear c1 c8 d4;obtain⟨j,hj,j6,rfl,⟨A',c',rfl,k7,f3⟩,HB,HE,HI⟩:=hrel;have g9:=qh j6;clear j6
      by_cases hlj:j<k
      · have j1:(j:Int)<(k:Int):=om
        obtain⟨o,ho⟩:∃o,hs[j]? = some o:=⟨_,ge9 (by rw[HL.o];omega)⟩;have M:=HK.o o (mg9 ho);have b9:=a5.o o (mg9 ho);obtain⟨g1,g2,g3,g4⟩:=Ho.bad_no b9;have g7:IntKind.u32.wrap o.dl=o.dl:=by rw[IntKind.wrap_u32];omega
        have g0:IntKind.u8.wrap o.fl=o.fl:=by rw[IntKind.wrap_u8];omega
        obtain⟨b,off,rfl,h7,a0⟩:=zbl (f9.o.bel HE.o lr) HK.o ho om;have d0:wr.cell? ⟨b,off+j*68+66,none⟩=some (.int .i64 o.dl):=a0 66 _ (Ho.at_dl M);have b4:wr.cell? ⟨b,off+j*68+67,none⟩=some (.int .i64 o.fl):=a0 67 _ (Ho.at_fl M)
        have e8:Hid (∀W,Below wr.heap.size wr W→∀o2,hs[j+1]? = some o2→b<wr.heap.size∧W.cell? ⟨b,off+(j+1)*68+1,none⟩=some (.int .u64 (o2.id:Int))):=fun W hW o2 E=>by
         obtain⟨b',k9,f7,i0,g6⟩:=zbl (f9.o.bel HE.o lr) HK.o E om
         injection f7 with f7
         injection f7 with e1 e2
         subst e1;subst e2;have h5:=g6 1 _ (Ho.at_id o2);exact⟨i0,(hW.cell i0).trans h5⟩
        have j2:Hid (b<wr.heap.size):=h7;clear a0 M;obtain⟨D,hD⟩:=ex9 (o.dl);obtain⟨F,hF⟩:=ex9 (o.fl);rw[←hD]at d0 g7;rw[←hF]at b4 g0;have f6:Hid (∀o2,hs[j+1]? = some o2→(cm3 F D).set 3 (.int .u64 (o2.id:Int))=(pathC last hs j).cells):=fun o2 E=>by rw[hF,hD];exact zye ho E b9
        have f0:Hid (¬j+1<hs.length→splice ((cm3 F D).set 0 (.int .u8 last.k.toNat)) 4 (u8s last.m)=(pathC last hs j).cells):=fun hl=>by rw[hF,hD];exact zyd ho hl b9 a7.o
        have i6:=qh b4;have i8:=qh d0;clear hD hF ho b9 d0 b4;have hT:Below wr.heap.size wr wr.drew:=(Below.refl _ wr).drew;have d6:=j2.o;go_wp2;refine kgo kr 14 (fun w'=>Below wr.heap.size wr w') hT (fun _ _ _ _ _ h=>h) ?_;refine kp 0 (.slice (some ⟨b,off,none⟩) k c) rfl kr (fun _=>kr) ?_;refine kp 1 (.int .i64 (j:Int)) rfl kr (fun _=>kr) ?_;refine kp 2 (.pointer (some ⟨b,off+j*68,none⟩)) rfl kr (fun _=>zby (t:=23) (e:=85) (x:=.tmp 80) (y:=.tmp 81) (g:=b) (off:=off) (n:=k) (c:=c) (p:=j) (sz:=68) rr kr kr hlj kr szHo) ?_;refine kp 3 (.pointer (some ⟨b,off+j*68+67,none⟩)) rfl kr (fun _=>kr) ?_;refine kl 4 (.int .i64 F) rfl kr (fun w' hw'=>zci (t:=3) (x:=.tmp 83) (p:=⟨b,off+j*68+67,none⟩) rr kr agI64r ((hw'.cell d6).trans i6.o)) ?_;refine kp 5 (.int .u8 F) rfl kr (fun _=>zta (x:=.tmp 84) rr kr (zzg F g0 _)) ?_;refine kp 6 (.slice (some ⟨b,off,none⟩) k c) rfl kr (fun _=>kr) ?_;refine kp 7 (.int .i64 (j:Int)) rfl kr (fun _=>kr) ?_;refine kp 8 (.pointer (some ⟨b,off+j*68,none⟩)) rfl kr (fun _=>zby (t:=23) (e:=85) (x:=.tmp 86) (y:=.tmp 87) (g:=b) (off:=off) (n:=k) (c:=c) (p:=j) (sz:=68) rr kr kr hlj kr szHo) ?_;refine kp 9 (.pointer (some ⟨b,off+j*68+66,none⟩)) rfl kr (fun _=>kr) ?_;refine kl 10 (.int .i64 D) rfl kr (fun w' hw'=>zci (t:=3) (x:=.tmp 89) (p:=⟨b,off+j*68+66,none⟩) rr kr agI64r ((hw'.cell d6).trans i8.o)) ?_;refine kp 11 (.int .u32 D) rfl kr (fun _=>zta (x:=.tmp 90) rr kr (zv3 D g7 _)) ?_;refine kp 12 (.agg (cm3 F D).toArray) rfl kr (fun _=>zop 63 [(0,.const (.int .u8 1)),(1,.tmp 85),(2,.tmp 91)] rr [(0,(.int .u8 1:Value)),(1,.int .u8 F),(2,.int .u32 D)] kr (zzn F D _)) ?_;intro q8 q9;clear q8 q9;refine AnyG.start wr.heap.size [⟨13,9,63,Cm.zero.cells,fun g=>.pointer (some ⟨g,0,none⟩)⟩] (fun W=>Below wr.heap.size wr W) 1 rfl hT ?_
        have h3:Hid (∀(W:World) (b:Act) (o:Oper),o.op=.alloc 63→(execOp b.eval o).run Tryz.prog W=.ok (.value (.pointer (some ⟨W.heap.size,0,none⟩))) (W.alloc (.cells Cm.zero.cells.toArray 63))):=fun W b o ho=>by
         unfold execOp
         rw[ho]
         kernel_rfl
        refine AnyG.fin sy kr ?_ ga9 gs9 (fun W h=>h) ?_
        · exact flt1 ⟨_,rfl,rfl,rfl,fun F W _=>h3.o _ _ _ rfl⟩
        intro FF W i7 h0 d9 b6;obtain⟨gl,rfl⟩:=zjz i7 h0;obtain⟨⟨h6,j4,_⟩,_⟩:=b6;refine AnyK.storeAll 14 gl (cm3 F D) 63 Cm.zero.cells rr rfl rfl rr kr kr kr j4 (by exact hd76c) (zzh F D) rr (fun _ _ _ h=>(by cases h)) ?_;intro w5 j7 g5;have a8:=g5.below d9 h6 d9.size;refine AnyK.done kr ?_;have G:=qh j7;have c5:=qtr HE a8;have b1:=qbl HB a8;have b7:=qh (zas f3.o a8);have k8:=qh a8;have HG:Hid (gl≠w.heap.size∧b≠gl∧w.heap.size≤gl∧wr.heap.size≤gl):=by have h1:=HB.o.lt;have h2:=j2.o;show _∧_∧_∧_;omega
        have d8:Hid (∀g,Value.ownBlock (.slice A' j c')=some g→g≠gl):=fun g hg=>by have h1:=(f3.o.lt g hg).2;have h2:=HG.o;omega
        clear j7 g5 a8 d9 h6 j4 i7 h0 h3 hT d6;simp only[putF]
        by_cases hl1:j+1<k
        · obtain⟨o2,E⟩:∃o,hs[j+1]? = some o:=⟨_,ge9 (by rw[HL.o];omega)⟩
          have hq:((j:Int) == (k:Int)-1)=false:=by rw[beq_eq_false_iff_ne];omega
          have l9:¬(j:Int)=(k:Int)-1:=om;have l5:(j:Int)+1<(k:Int):=om;have d1:=(e8.o _ k8.o o2 E).2;have c3:w5.cell? ⟨gl,3,none⟩=some (.int .u64 0):=by rw[G.o.cell];rfl
          have hf:=fun i=>G.o.frozen i
          have k6:Hid (Blk (w5.setCell ⟨gl,3,none⟩ (.int .u64 (o2.id:Int))) gl 63 (pathC last hs j).cells):=by
           have h5:=G.o.set_ 3 (.int .u64 (o2.id:Int))
           rwa [f6.o o2 E]at h5
          have c6:(w5.setCell ⟨gl,3,none⟩ (.int .u64 (o2.id:Int))).cell? ⟨gl,3,none⟩=some (.int .u64 (o2.id:Int)):=by
           have h5:=G.o.set_ 3 (.int .u64 (o2.id:Int));rw[h5.cell];rfl
          have l6:=cm_ld k6.o (Cm.cells_len (b5.o j));have J:Hid (Below w.heap.size w (w5.setCell ⟨gl,3,none⟩ (.int .u64 (o2.id:Int)))):=c5.o.setCell (p:=⟨gl,3,none⟩) HG.o.2.2.1 _;have a4:Hid (Blk (w5.setCell ⟨gl,3,none⟩ (.int .u64 (o2.id:Int))) w.heap.size 63 C):=b1.o.far (p:=⟨gl,3,none⟩) HG.o.1.symm _;have Y:Hid ((w5.setCell ⟨gl,3,none⟩ (.int .u64 (o2.id:Int))).ownsRow (w.heap.size+1) 63 20 (.slice A' j c') j (((List.range j).map (pathC last hs)).flatMap Cm.cells)):=zc5 b7.o (Only.of_setCells w5 gl 3 [.int .u64 (o2.id:Int)]) (fun g hg=>d8.o g hg)
          by_cases hz:o2.id=0
          · have he:=h8.o (j+1) o2 om E hz
            have c9:Hid (pathE last hs=3):=he;have m4:((o2.id:Int) == 0)=true:=by rw[beq_iff_eq];omega
            generalize o2.id=I2 at *;clear he hz E;go_wp2;go_ret2;exact⟨_,_,_,by rw[c9.o];rfl,lr,fun h=>(by rw[c9.o]at h;cases h),J.o⟩
          · have e7:Hid (∀(i:Nat) (o:Ho),0<i→i≤j+1→hs[i]? = some o→o.id≠0):=fun i o' h1 h2 hio=>by
             rcases Nat.lt_or_ge i (j+1)with h|h
             · exact HI.o i o' h1 om hio
             · obtain rfl:i=j+1:=om
               rw[E]at hio
               injection hio with hio
               subst hio;exact hz
            have m1:((o2.id:Int) == 0)=false:=by rw[beq_eq_false_iff_ne];omega
            have l2:¬(o2.id:Int)=0:=om;have a6:=qh (zi2 (last:=last) (hs:=hs) j);have I:=qh (Cm.cells_len (b5.o j));have f5:=qh (Cm.cells_one (pathC last hs j));generalize (pathC last hs j).cells=PC at *;obtain⟨R2,U⟩:=ex9 (((List.range (j+1)).map (pathC last hs)).flatMap Cm.cells);rw[←U]at a6;have a9:=qh U;clear U;generalize ((List.range j).map (pathC last hs)).flatMap Cm.cells=R1 at *;have b2:Hid ((Tryz.prog.info? 63).map (fun i=>((i.zero.map (fun z=>z.cells.size)),i.size))=some (some PC.length,PC.length)):=by show _=_;rw[I.o];exact z1cmp
            generalize o2.id=I2 at *;clear E hz HI b7 c5 G b1 e8 f6 f0
            go_wp2_with (first
             | (refine zb6 rfl 70 63 (.tmp 116) rfl PC rr Tryz.underlying70 b2.o (by rw[I.o];omega) (by rw[I.o];omega) ?_)
             | (at_builtin;refine zah rfl (.tmp 115) (.tmp 117) 70 rfl (w.heap.size+1) 63 20 32 Tryz.underlying70 iCmz (.slice A' j c') j R1 rr (by exact zas Y.o ((Below.refl _ _).alloc lr _)) (some ⟨(w5.setCell ⟨gl,3,none⟩ (.int .u64 (I2:Int))).heap.size,0,none⟩) 1 1 PC rr (by exact RdS.new _ _ PC 20 I.o) f5.o om om (by have:=a4.o.lt;simp at this ⊢;omega) ?_;intro A7 c7 w7 r d7 X b3;have f2:=qh ((J.o.alloc J.o.size _).grown X (Nat.le_trans J.o.size sy) (fun g hg=>by have h1:=(Y.o.lt g hg).1;omega));have d5:=qh ((a4.o.alloc _).grown X (fun e=>by have h1:=(Y.o.lt _ e.symm).1;omega));rw[a6.o]at r;have e5:=qh r;clear r X b3))
            go_roundg (k-(j+1))
            case measure=>have:=g9.o;omega
            case rel=>exact⟨j+1,by omega,rfl,by go_num,⟨A7,c7,rfl,d7,by have h9:=e5.o;rw[a9.o]at h9;exact h9⟩,d5,f2,e7⟩
        · have g8:j+1=k:=om
          have hq:((j:Int) == (k:Int)-1)=true:=by rw[beq_iff_eq];omega
          have q0:w5.cell? ⟨w.heap.size,0,none⟩=some (.int .u8 last.k.toNat):=by rw[b1.o.cell,e6.o];rfl
          have c0:w5.cell? ⟨gl,0,none⟩=some (.int .u8 1):=by rw[G.o.cell];rfl
          have m3:=fun i=>G.o.frozen i
          have k1:=G.o.set_ 0 (.int .u8 last.k.toNat);have e0:Blk (w5.setCell ⟨gl,0,none⟩ (.int .u8 last.k.toNat)) w.heap.size 63 C:=b1.o.far (p:=⟨gl,0,none⟩) HG.o.1.symm _;have e9:Below w.heap.size w (w5.setCell ⟨gl,0,none⟩ (.int .u8 last.k.toNat)):=c5.o.setCell (p:=⟨gl,0,none⟩) HG.o.2.2.1 _;have j5:(w5.setCell ⟨gl,0,none⟩ (.int .u8 last.k.toNat)).ownsRow (w.heap.size+1) 63 20 (.slice A' j c') j (((List.range j).map (pathC last hs)).flatMap Cm.cells):=zc5 b7.o (Only.of_setCells w5 gl 0 [.int .u8 last.k.toNat]) (fun g hg=>d8.o g hg);have l8:(ldAt 28 (.pointer (some ⟨w.heap.size,4,none⟩))).run Tryz.prog (w5.setCell ⟨gl,0,none⟩ (.int .u8 last.k.toNat))=.ok (.agg (u8s last.m).toArray) (w5.setCell ⟨gl,0,none⟩ (.int .u8 last.k.toNat)):=zal e0 _ 4 (u8s last.m) (by rw[zaa,a7.o,e6.o,Cm.cells_mark,tk (by rw[zaa,a7.o];exact lr)]) _ Tryz.underlying28 rfl (by rw[zaa,a7.o];exact hd16);obtain⟨w6,l0,c2,f1⟩:=st16 4 k1 (by rw[List.length_set];exact lr) (show(u8s last.m).length=16 by rw[zaa,a7.o]) (zac _);rw[f0.o (by rw[HL.o];omega)]at f1;have J:=qh (c2.below e9 HG.o.2.2.1 e9.size);have a4:=qh (c2.blk e0 HG.o.1.symm);have Y:=qh (zc5 j5 c2 (fun g hg=>d8.o g hg));have l6:=cm_ld f1 (Cm.cells_len (b5.o j));have a6:=qh (zi2 (last:=last) (hs:=hs) j);have I:=qh (Cm.cells_len (b5.o j));have f5:=qh (Cm.cells_one (pathC last hs j));have e7:Hid (∀(i:Nat) (o:Ho),0<i→i≤j+1→hs[i]? = some o→o.id≠0):=fun i o' h1 h2 hio=>HI.o i o' h1 (by have:=(gi9.1 hio).1;rw[HL.o]at this;omega) hio
          generalize (pathC last hs j).cells=PC at *;obtain⟨R2,U⟩:=ex9 (((List.range (j+1)).map (pathC last hs)).flatMap Cm.cells);rw[←U]at a6;have a9:=qh U;clear U;generalize ((List.range j).map (pathC last hs)).flatMap Cm.cells=R1 at *;have b2:Hid ((Tryz.prog.info? 63).map (fun i=>((i.zero.map (fun z=>z.cells.size)),i.size))=some (some PC.length,PC.length)):=by show _=_;rw[I.o];exact z1cmp
          generalize u8s last.m=LM at *;generalize last.k.toNat=LK at *;have m2:=qh g8;clear g8 hl1 HI b7 c5 G b1 e8 f6 f0 f1 c2 e0 e9 j5 k1 e6
          go_wp2_with (first
           | (refine zb6 rfl 70 63 (.tmp 116) rfl PC rr Tryz.underlying70 b2.o (by rw[I.o];omega) (by rw[I.o];omega) ?_)
           | (at_builtin;refine zah rfl (.tmp 115) (.tmp 117) 70 rfl (w.heap.size+1) 63 20 32 Tryz.underlying70 iCmz (.slice A' j c') j R1 rr (by exact zas Y.o ((Below.refl _ _).alloc lr _)) (some ⟨w6.heap.size,0,none⟩) 1 1 PC rr (by exact RdS.new _ _ PC 20 I.o) f5.o om om (by have:=a4.o.lt;simp at this ⊢;omega) ?_;intro A7 c7 w7 r d7 X b3;have f2:=qh ((J.o.alloc J.o.size _).grown X (Nat.le_trans J.o.size sy) (fun g hg=>by have h1:=(Y.o.lt g hg).1;omega));have d5:=qh ((a4.o.alloc _).grown X (fun e=>by have h1:=(Y.o.lt _ e.symm).1;omega));rw[a6.o]at r;have e5:=qh r;clear r X b3))
          go_roundg (k-(j+1))
          case measure=>have:=g9.o;omega
          case rel=>exact⟨j+1,by omega,rfl,by go_num,⟨A7,c7,rfl,d7,by have h9:=e5.o;rw[a9.o]at h9;exact h9⟩,d5,f2,e7⟩
      · obtain rfl:j=k:=om
        have j1:¬(j:Int)<(j:Int):=om;have he:=j8.o (fun i o h1 hio=>HI.o i o h1 (by have:=(gi9.1 hio).1;rw[HL.o]at this;omega) hio);have c9:Hid (pathE last hs=0):=he
        have HF:Hid (RdS 20 wr A' j ((pathL last hs).flatMap Cm.cells)):=by
         have h5:=RdS.ofOwn2 f3.o;rw[pathL,HL.o];exact h5
        clear he;go_wp2;go_ret2;exact⟨A',j,c',by rw[c9.o];rfl,k7,fun _=>⟨rfl,HF.o⟩,HE.o⟩
end
section
attribute [local go_sem ↓] zch
theorem zrf(last:Cm)(hc:last.ok)(A:Option Addr)(n c:Nat)(hs:List Ho)(w:World)(h:RdS 68 w A n (hs.flatMap Ho.cells))(r:∀s∈hs,s.ok)(hl:hs.length=n)(hn:n≤1400000000000):
 Calls Tryz.prog 29 #[.agg last.cells.toArray,.slice A n c] w fun e w'=>∃A' n' c',e=.returned (.tuple #[.slice A' n' c',.int .i64 (pathE last hs:Int)])∧(pathE last hs=0→n'=n∧RdS 20 w' A' n ((pathL last hs).flatMap Cm.cells))∧Below w.heap.size w w':=by
 by_cases hne:¬(last.k.toNat<2∨4<last.k.toNat)∧(∀(i:Nat) (o:Ho),hs[i]? = some o→o.bad=false)∧¬(hs.length<1∨5<hs.length)∧last.shaped=true
 · obtain⟨h1,h2,h3,h4⟩:=hne
   refine(zrd last hc A n c hs w h r hl h1 (fun s hs=>by obtain⟨i,hi⟩:=List.getElem?_of_mem hs;exact h2 i s hi) om om h4).mono ?_;rintro e w' ⟨A',n',c',rfl,_,hr,hB⟩;exact⟨A',n',c',rfl,hr,hB⟩
 · refine(zre last hc A n c hs w h r hl om hne).mono ?_
   rintro e w' ⟨rfl,hB⟩;refine⟨none,0,0,rfl,fun he=>absurd ?_ hne,hB⟩;obtain⟨hb,h1,h5⟩:=zc8 he;obtain⟨hk,D,_⟩:=zhl he;exact⟨hk,fun i o hi=>hb o (mg9 hi),by omega,D⟩
theorem zpb(A C:Option Addr)(n c m d:Nat)(xs:List UInt8)(hs:List Ho)(w:World)(hx:Rd w A n (u8s xs))(hc:n≤c)(hp:RdB w C m (hs.map Ho.pub))(E:∀s∈hs,s.ok)(hm:hs.length=m):
 Calls Tryz.prog 30 #[.slice A n c,.slice C m d] w fun e w'=>∃A' n' c',e=.returned (.tuple #[.slice A' n' c',.int .i64 (scE xs hs:Int)])∧n'≤c'∧(scE xs hs=0→n'=m∧RdS 192 w' A' m ((scL xs hs).flatMap Sp.cells))∧Below w.heap.size w w':=by
 have hn:xs.length=n:=hx.len
 by_cases hb:n≠32∨m<1∨5<m
 · refine(zq4 A C n c m d w hb).mono ?_
   rintro e w' ⟨rfl,rfl⟩;have e2:scE xs hs=2:=by rw[scE,if_pos (by rw[hn,hm];exact hb)]
   exact⟨none,0,0,by rw[e2];rfl,lr,fun h=>(by rw[e2]at h;cases h),Below.refl _ _⟩
 · obtain rfl:n=32:=om
   have e2:scE xs hs=(sch [] [xs] (pubB xs) (hs.map Ho.pub)).2:=by rw[scE,if_neg (by rw[hn,hm];exact hb)]
   refine(zpa A C c m d xs (hs.map Ho.pub) w hx hc hp (fun p hp=>by obtain⟨o,ho,rfl⟩:=List.mem_map.1 hp;exact(E o ho).2.2.1) om om).mono ?_;rintro e w' ⟨A',n',c',rfl,r,hr,D,hB⟩;refine⟨A',n',c',by rw[e2],r,fun h=>?_,hB⟩;have h7:(scL xs hs).length=hs.length:=(zip h).2.1;have h8:n'=m:=by rw[←D,←hm];exact h7
   subst h8;exact⟨rfl,hr⟩
end
section
attribute [local go_sem ↓] zch zfs zof znl zfx zb0
theorem zyh{w:World}{base n c:Nat}{e:TypeId}{A:Option Addr}{xs:List Value}(h:w.ownsRow base e 1 (.slice A n c) n xs)(hn:0<n):∃g,A=some ⟨g,0,none⟩∧base≤g∧g<w.heap.size:=by
 rcases h.2 with ⟨_,h0⟩|⟨g,D,r,hv,hb,hg,_⟩
 · omega
 · injection hv with hv _ _
   exact⟨g,hv,hb,(Array.getElem?_eq_some_iff.1 hg).1⟩
theorem zx4(w:World)(ty:TypeId)(a b c d:Int):Rd (w.alloc (.cells #[.int .i64 a,.int .i64 b,.int .i64 c,.int .i64 d] ty)) (some ⟨w.heap.size,0,none⟩) 4 (i64s [a,b,c,d]):=⟨rfl,fun _=>⟨w.heap.size,0,rfl,by simp,fun j u hu=>by rw[Nat.zero_add];exact((Blk.new w ty (i64s [a,b,c,d])).cell j).trans hu⟩⟩
theorem zrk{P:Program}{w:World}{fn:Func}{p q u:Tmp}{ty:TypeId}(h:fn.results=#[.tmp q,.cell p ty,.tmp u])(r:Array Value)(g:Nat)(t:TypeId)(cs:List Value)(hp:r.getD p undef=.pointer (some ⟨g,0,none⟩))
 (hB:Blk w g t cs) (d:TypeDesc) (hu:P.underlying ty=some d) (hd:d.isRow=true) (hi:(P.info? ty).map (·.size)=some cs.length):
 (results fn r).run P w=.ok (.tuple #[r.getD q undef,.agg cs.toArray,r.getD u undef]) w:=by
 have A:r[p]?.getD undef=.pointer (some ⟨g,0,none⟩):=by rw[←hp];simp
 simp[results,h,A,asAddr,run_loadVar_mid w g 0 ty cs d hB.range hu hd hi]
theorem buildS1(mark:List UInt8)(h1:mark.length=16)(w:World):(Instr.build 37 [(0,(.agg (u8s mark).toArray:Value))].toArray).run Tryz.prog w=.ok (.agg (soC mark (List.replicate 32 0) none 0 0).toArray) w:=by
 have e0:(u8s mark).length=16:=by rw[zaa,h1]
 refine zbt zvSo Tryz.underlying37 (plSo _ Tryz.underlying37) ?_ w
 show Instr.fill _ _ [(0,_)]=_
 rw[zat (cs:=u8s mark) rfl (by rw[e0];rfl) (by rw[e0,zc0];omega),zSo,soC,zdm _ _ _ (by rw[e0];simp[zaa])]
 rfl
theorem eKb:ElemIs Tryz.prog 27 32 32:=ElemIs.of (z:=.agg (u8s (List.replicate 32 0)).toArray) kr (by simp[Value.cells,zaa]) om
theorem szKs(w:World):(sizeOf 35).run Tryz.prog w=.ok 1 w:=by kernel_rfl
theorem iKb:(Tryz.prog.info? 27).map (fun i=>((i.zero.map (fun z=>z.cells.size)),i.size))=some (some 32,32):=by kernel_rfl
theorem zxe{mark own:List UInt8}(h1:mark.length=16)(h2:own.length=32)(A A':Option Addr)(m c m' c':Nat):(soC mark own A m c).set 48 (.slice A' m' c')=soC mark own A' m' c':=by
 rw[soC,List.set_append_right _ _ (by rw[zaa];omega),List.set_append_right _ _ (by simp only[zaa];omega),soC]
 simp[zaa,h1,h2]
theorem zzb{o:Oper}{a:Act}{w:World}{x:Operand}{g off n c:Nat}(ho:o.op=.slice 22 x (some (.const (.int .i64 32))) (some (.const (.int .i64 64))) none)(hx:a.eval x=.slice (some ⟨g,off,none⟩) n c)(hk:64≤c):(execOp a.eval o).run Tryz.prog w=.ok (.value (.slice (some ⟨g,off+32,none⟩) 32 (c-32))) w:=by
 unfold execOp
 have he:a.eval (.const (.int .i64 32))=.int .i64 32:=rfl;have r:a.eval (.const (.int .i64 64))=.int .i64 64:=rfl;have h1:¬c=32:=om;have h2:(64:Int)≤(c:Int):=om
 simp[ho,hx,he,r,Instr.sliceAt,Instr.slice,Instr.sliceBounds,Instr.sliceBound,asIntOf,run_underlying Tryz.underlying22,Addr.add,h1,h2]
theorem rd_lt{w:World}{b o n:Nat}{xs:List Value}(h:Rd w (some ⟨b,o,none⟩) n xs)(hn:0<n):b<w.heap.size:=by
 obtain⟨b',o',e,hb,_⟩:=h.2 hn
 injection e with e
 injection e with e1 _
 omega
def RmP(w:World)(xs:List UInt8)(hs:List Ho)(m:Nat)(e:Ending)(w':World):Prop :=
 ((smE xs hs≠0∧e=.returned (.tuple #[.slice none 0 0,.agg zSo.toArray,.int .i64 (smE xs hs:Int)])) ∨
  (smE xs hs=0∧∃A c B d,e=.returned (.tuple #[.slice A 328 c,.agg (soC (xs.drop 64) (smOwn xs) B m d).toArray,.int .i64 0])∧328≤c∧Rd w' A 328 (u8s (smL xs hs))∧RdS 32 w' B m ((smPays xs hs).flatMap u8s)))∧Below w.heap.size w w'
theorem zri(A H:Option Addr)(n ca m c:Nat)(xs:List UInt8)(hs:List Ho)(w:World)(hx:Rd w A n (u8s xs))(hn:n≤140737488355328)(hh:RdS 68 w H m (hs.flatMap Ho.cells))(c7:∀s∈hs,s.ok)(hl:hs.length=m)(hm:m≤1400000000000):
 Calls Tryz.prog 13 #[.slice A n ca,.slice H m c] w (RmP w xs hs m):=by
 have hc:(smLast xs).ok:=zdb xs;have s2:=qh hx.len;have t2:Hid (∀W,Below w.heap.size w W→Calls Tryz.prog 28 #[.slice A n ca] W fun e w'=>∃A' c',e=.returned (.slice A' n c')∧n≤c'∧w'.ownsRow W.heap.size 5 1 (.slice A' n c') n (u8s xs)∧Below W.heap.size W w'):=fun W hW=>zb1 A n ca xs W (hx.below hW) hn
 have o0:Hid (∀W,Below w.heap.size w W→Calls Tryz.prog 29 #[.agg (smLast xs).cells.toArray,.slice H m c] W fun e w'=>∃A' n' c',e=.returned (.tuple #[.slice A' n' c',.int .i64 (pathE (smLast xs) hs:Int)])∧(pathE (smLast xs) hs=0→n'=m∧RdS 20 w' A' m ((pathL (smLast xs) hs).flatMap Cm.cells))∧Below W.heap.size W w'):=fun W hW=>zrf (smLast xs) hc H m c hs W (hh.bel hW lr) c7 hl om
 have o6:Hid (∀W,Below w.heap.size w W→Calls Tryz.prog 31 #[.slice H m c] W fun e w'=>∃A' c',e=.returned (.slice A' m c')∧RdB w' A' m (hs.map Ho.pub)∧Below W.heap.size W w'):=fun W hW=>by
  refine(zk7 H m c hs W (hh.bel hW lr) c7 hl hm).mono ?_;rintro e w' ⟨A',c',rfl,hr,hB⟩;exact⟨A',c',rfl,hr,hB⟩
 have r5:Hid (∀W X d C c2,Rd W X 32 (u8s ((smAll xs).take 32))→32≤d→RdB W C m (hs.map Ho.pub)→Calls Tryz.prog 30 #[.slice X 32 d,.slice C m c2] W fun e w'=>∃A' n' c',e=.returned (.tuple #[.slice A' n' c',.int .i64 (scE ((smAll xs).take 32) hs:Int)])∧n'≤c'∧(scE ((smAll xs).take 32) hs=0→n'=m∧RdS 192 w' A' m ((scL ((smAll xs).take 32) hs).flatMap Sp.cells))∧Below W.heap.size W w'):=fun W X d C c2 h1 h2 hp=>zpb X C 32 d m c2 _ hs W h1 h2 hp c7 hl
 have x5:Hid (∀W A3,Rd W A3 4 (i64s [(szE xs:Int),(pathE (smLast xs) hs:Int),(scE ((smAll xs).take 32) hs:Int),(idE hs:Int)])→Calls Tryz.prog 32 #[.slice A3 4 4] W fun e w'=>e=.returned (.int .i64 (smE xs hs:Int))∧W=w'):=fun W A3 h3=>by
  have h5:=zpd A3 4 4 _ W h3 om
  rwa [smE_is]at h5
 have v1:=qh (Cm.cells_len hc);have k5:Hid ((Tryz.prog.info? 63).map (·.size)=some cm4.length):=hd76c;have j5:Hid ((Tryz.prog.info? 37).map (·.size)=some zSo.length):=by show _=_;rw[zc0];exact hdSo
 have HC:Hid (splice cm4 4 ((u8s ((smAll xs).drop 64)).take 16)=(smLast xs).cells):=by
  show _=_
  rw[zkn _ (by rw[List.length_drop,zg7]),zo4]
  rfl
 have e6:Hid (Below w.heap.size w (w.alloc (.cells zSo.toArray 37))):=(Below.refl _ w).alloc lr _;have z0:Hid (Blk (w.alloc (.cells zSo.toArray 37)) w.heap.size 37 zSo):=Blk.new' rfl rfl;have HX:=qh hx;have t3:=qh hh;have d5:=qh c7;have a2:=qh hl;clear hx hh hc c7
 go_enter Tryz.func13, Tryz.ntmps13
 go_upto_region 3 with (go_at_call 28;(refine(t2.o _ (by exact e6.o)).mono ?_);rintro e w1 ⟨A1,c1,rfl,y9,e7,n1⟩;have l3:=qtr e6 n1;have g3:=qbl z0 n1;have o4:=qh e7;clear n1 e7)
 go_cut [26] (fun v wx=>v=.bool ((n:Int) != 80)∧w1=wx)
 case first =>
  go_wp2
  go_meet
  exact⟨rfl,rfl⟩
 case rest =>
 obtain⟨rfl,rfl⟩:=hcut
 go_step
 go_cut [7,8] (fun v7 v8 wx=>v7=.int .i64 (szE xs:Int)∧(∃g d,v8=.slice (some ⟨g,0,none⟩) 80 d∧80≤d∧Hid (Rd wx (some ⟨g,0,none⟩) 80 (u8s (smAll xs))))∧Hid (Below w.heap.size w wx)∧Hid (Blk wx w.heap.size 37 zSo))
 case first =>
  by_cases hn:n=80
  · subst hn
    have C0:(((80:Nat):Int) != 80)=false:=rfl;have D:=s2.o;obtain⟨g,rfl,_,_⟩:=zyh o4.o om;have HF:Hid (smAll xs=xs∧szE xs=0):=⟨by rw[smAll,if_pos D],by rw[szE,if_pos D]⟩;clear D;go_wp2
    go_meet
    exact⟨by rw[HF.o.2];rfl,⟨g,c1,rfl,y9,by rw[HF.o.1];exact Rd.of_own o4.o⟩,l3,g3⟩
  · have C0:((n:Int) != 80)=true:=by rw[bne_iff_ne];omega
    have D:¬xs.length=80:=by rw[s2.o];exact hn
    have HF:Hid (smAll xs=1 :: List.replicate 79 0∧szE xs=2):=⟨by rw[smAll,if_neg D],by rw[szE,if_neg D]⟩;clear D hn
    go_wp2_with (at_make;refine zaj rfl (.const (.int .i64 80)) (.const (.int .i64 80)) 22 rfl 5 (.int .u8 0) 1 Tryz.underlying22 iU8 rfl .i64 .i64 80 80 rr rr 80 80 rfl rfl (by decide) (by decide) (by decide) ?_;intro w2 e8 m5 B3;have h9:=qh (l3.o.trans ((zad m5).mono l3.o.size));have f1:=qh (g3.o.below (zad m5) g3.o.lt);have A2:=qh e8;have c2:w2.cell? ⟨w1.heap.size,0,none⟩=some (.int .u8 0):=e8.cell 0;have f2:=e8.frozen 0;have D8:w1.heap.size<w2.heap.size:=e8.lt;clear e8 m5 B3)
    go_meet
    have D2:w.heap.size<w1.heap.size:=g3.o.lt;have y1:=A2.o.set_ 0 (.int .u8 1);refine⟨by rw[HF.o.2];rfl,⟨w1.heap.size,80,rfl,by omega,?_⟩,h9.o.setCell (by show w.heap.size≤w1.heap.size;omega) _,f1.o.far (by show w.heap.size≠w1.heap.size;omega) _⟩;have h5:=y1.rd 0 80 (by simp[zao]);rw[HF.o.1];exact h5
 case rest =>
 obtain⟨rfl,⟨g,d,rfl,hd,h6⟩,h9,f1⟩:=hcut;obtain⟨w3,rfl⟩:=ex9 (wc);have C7:Hid ((smAll xs).length=80):=zg7 xs
 go_upto_region 8 with (first
  | (refine zai rfl 63 [(0,.const (.int .u8 4))] rfl _ rr (.agg cm4.toArray) (znc _) ?_)
  | (refine zab rfl 63 (.tmp 9) (.tmp 30) rfl w3.heap.size cm4 rr rr 63 zcmc (Blk.new' rfl rfl) k5.o (by decide) rfl ?_;intro w4 v3 x6;have g7:Below w3.heap.size w3 w4:=x6.below ((Below.refl _ w3).alloc lr _) lr sy;have m1:=qtr h9 g7;have q6:=qbl f1 g7;have l1:=qh (h6.o.below g7);have n2:=qh v3;have C5:w.heap.size<w3.heap.size:=f1.o.lt;clear v3 x6 g7))
 have k6:Hid (Rd w4.drew (some ⟨g,64,none⟩) 16 (u8s ((smAll xs).drop 64))):=by
  have h5:=(l1.o).drop' 64 16 rfl;rw[Nat.zero_add]at h5;exact h5
 have E0:¬d=64:=om;have n32:¬d=32:=om;have E1:(64:Int)≤(d:Int):=om;have D6:(32:Int)≤(d:Int):=om
 go_region_held3 (fun _=>True) (trivial) ((refine zbs rfl (.tmp 32) (.tmp 34) 22 rfl 5 Tryz.underlying22 zcq w3.heap.size 4 16 16 rr (some ⟨g,64,none⟩) 16 (d-64) rr 63 _ (by exact n2.o.drew) (u8s ((smAll xs).drop 64)) k6.o (zac _) (by decide) ?_;intro w5 g0 c3))
 rw[HC.o]at g0;have l2:Hid (Below w3.heap.size w4 w5):=c3.below (Below.refl _ _).drew lr (by have:=n2.o.lt;show w3.heap.size≤w4.heap.size;omega);have a8:=qh (c3.below m1.o.drew om m1.o.drew.size);have p0:=qh (c3.blk q6.o.drew om)
 have i0:Hid (Rd w5 (some ⟨g,0,none⟩) 80 (u8s (smAll xs))):=by
  have h5:=h6.o;refine c3.rd l1.o.drew fun ad e=>?_
  injection e with e
  subst e;obtain⟨b,n5,e,hb,_⟩:=h6.o.2 (by decide)
  injection e with e
  injection e with e1 _
  show g≠w3.heap.size
  omega
 have l5:=cm_ld g0 v1.o;have m2:=qh g0;have C2:w.heap.size≤w5.heap.size:=a8.o.size;clear g0 c3 k6 l2 h6 l1 n2 q6 m1 HC k5 h9 f1;obtain⟨CL,l6⟩:=ex9 ((smLast xs).cells)
 have v0:Hid (xs.length=80→(CL.drop 4).take (u8s (xs.drop 64)).length=u8s (xs.drop 64)):=fun hl=>by
  rw[l6,smLast,if_pos hl];have h5:(u8s (xs.drop 64)).length=16:=by rw[zaa,List.length_drop,hl]
  rw[h5];exact tk (by show(u8s (xs.drop 64)).length≤16;omega)
 rw[←l6]at o0 l5 v1 m2;clear l6
 go_upto_region 10 with (go_at_call 29;(refine(o0.o _ (by exact a8.o)).mono ?_);rintro e w6 ⟨A6,n6,c6,rfl,d0,d4⟩;have a9:=qtr a8 d4;have n4:=qbl p0 d4;have r8:=qh (i0.o.below d4);have m4:=qbl m2 d4;have b5:=qh d0;clear d4 d0)
 clear o0 l5 a8 p0 i0 m2
 go_region_held3 (fun _=>True) (trivial) ((first
  | (go_at_call 31;(refine(o6.o _ (by exact a9.o.drew)).mono ?_);rintro e w8 ⟨A8,c8,rfl,q0,c0⟩;have v9:=qh (a9.o.drew.trans (c0.mono a9.o.drew.size));have e4:=qh (n4.o.drew.below c0 n4.o.drew.lt);have m6:=qh (Rd.below (w:=w6.drew) r8.o c0);have q5:=qh (m4.o.drew.below c0 m4.o.drew.lt);have p7:=qh q0;have o2:Hid (pathE (smLast xs) hs=0→n6=m∧RdS 20 w8 A6 m ((pathL (smLast xs) hs).flatMap Cm.cells)):=fun h=>⟨(b5.o h).1,RdS.belo (w:=w6.drew) (b5.o h).2 c0⟩
     have j2:Hid (Rd w8 (some ⟨g,0,none⟩) 32 (u8s ((smAll xs).take 32))):=by
      have h5:=(m6.o).cut (A':=some ⟨g,0,none⟩) (m:=32) (k:=0) om om (fun _ b' off' e=>by injection e with e;injection e with e1 e2;subst e1;subst e2;rfl);rw[List.drop_zero,zay]at h5;exact h5
     clear q0 c0)
  | (go_at_call 30;(refine(r5.o _ _ _ _ _ (by exact j2.o) om (by exact p7.o)).mono ?_);rintro e w9 ⟨A9,n9,c9,rfl,D0,d9,b6⟩;have g4:=qtr v9 b6;have r6:=qbl e4 b6;have o7:=qh (m6.o.below b6);have m0:=qbl q5 b6;have l9:Hid (pathE (smLast xs) hs=0→n6=m∧RdS 20 w9 A6 m ((pathL (smLast xs) hs).flatMap Cm.cells)):=fun h=>⟨(o2.o h).1,RdS.belo (o2.o h).2 b6⟩
     have g8:=qh d9
     clear d9 b6)))
 clear o6 r5 a9 n4 r8 b5 v9 e4 m6 o2 p7 j2 m4 q5
 go_upto_region 12 with fail
 go_cut [60] (fun v wx=>v=.bool (idB hs)∧w9=wx)
 case first =>
  by_cases hm0:m=0
  · subst hm0
    obtain rfl:hs=[]:=List.eq_nil_of_length_eq_zero hl;go_wp2
    go_meet
    exact⟨rfl,rfl⟩
  · have t6:(0:Int)<(m:Int):=om
    obtain⟨o,ho⟩:∃o,hs[0]? = some o:=⟨_,ge9 om⟩;obtain⟨b,n5,rfl,hb,e5⟩:=zbl t3.o d5.o ho om;have c1:w9.cell? ⟨b,n5+1,none⟩=some (.int .u64 (o.id:Int)):=(g4.o.cell (p:=⟨b,n5+1,none⟩) hb).trans (by have h5:=e5 1 _ (Ho.at_id o);rwa [Nat.zero_mul,Nat.add_zero]at h5)
    have A0:Hid (((o.id:Int) == 0)=idB hs):=by
     show _=_
     cases hs with
     | nil=>simp at ho
     | cons a l =>
      simp at ho
      subst ho
      show _=(a.id == 0)
      rw[Bool.eq_iff_iff]
      simp
    clear ho e5;go_wp2
    go_meet
    exact⟨by rw[A0.o],rfl⟩
 case rest =>
 obtain⟨rfl,rfl⟩:=hcut
 go_step
 go_cut [14] (fun v wx=>v=.int .i64 (idE hs:Int)∧w9=wx)
 case first =>
  have s5:Hid (idE hs=if idB hs then 3 else 0):=rfl;generalize idB hs=ib at *
  cases ib
  · go_wp2
    go_meet
    exact⟨by rw[s5.o];rfl,rfl⟩
  · go_wp2
    go_meet
    exact⟨by rw[s5.o];rfl,rfl⟩
 case rest =>
 obtain⟨rfl,rfl⟩:=hcut
 go_upto_region 15 with (go_at_call 32;(refine(x5.o _ _ (by exact zx4 _ _ _ _ _ _)).mono ?_);rintro e f9 ⟨rfl,rfl⟩;have a5:=qh (g4.o.alloc g4.o.size (.cells #[.int .i64 (szE xs:Int),.int .i64 (pathE (smLast xs) hs:Int),.int .i64 (scE ((smAll xs).take 32) hs:Int),.int .i64 (idE hs:Int)] 3));have k4:=qh (r6.o.alloc (.cells #[.int .i64 (szE xs:Int),.int .i64 (pathE (smLast xs) hs:Int),.int .i64 (scE ((smAll xs).take 32) hs:Int),.int .i64 (idE hs:Int)] 3));have i4:=qh (o7.o.alloc (.cells #[.int .i64 (szE xs:Int),.int .i64 (pathE (smLast xs) hs:Int),.int .i64 (scE ((smAll xs).take 32) hs:Int),.int .i64 (idE hs:Int)] 3)))
 by_cases he:smE xs hs=0
 · have V:Hid (Below w9.heap.size w9 (w9.alloc (.cells #[.int .i64 (szE xs:Int),.int .i64 (pathE (smLast xs) hs:Int),.int .i64 (scE ((smAll xs).take 32) hs:Int),.int .i64 (idE hs:Int)] 3))):=(Below.refl _ _).alloc lr _
   generalize w9.alloc (.cells #[.int .i64 (szE xs:Int),.int .i64 (pathE (smLast xs) hs:Int),.int .i64 (scE ((smAll xs).take 32) hs:Int),.int .i64 (idE hs:Int)] 3)=f9 at *;have j6:=qh (m0.o.below V.o m0.o.lt)
   have l0:sm3 xs hs=0:=by
    unfold smE at he
    split at he
    · rename_i h;exact absurd he h
    · rename_i h;simpa using h
   have m8:scE (xs.take 32) hs=0:=by
    unfold smE at he
    rw[if_neg (by simp[l0])]at he;exact he
   obtain⟨D,h7,D3,D4,p9⟩:=sm3_0 l0;have i5:smAll xs=xs:=by rw[smAll,if_pos D]
   obtain⟨k,hk⟩:∃k,m=k+1:=⟨m-1,by omega⟩;subst hk;have D9:k≤4:=om;have m9:((smE xs hs:Nat):Int)=0:=om;obtain⟨rfl,d0⟩:=l9.o h7;rw[i5]at g8;obtain⟨rfl,d9⟩:=g8.o m8;obtain⟨_,g9,g6⟩:=zip m8;have hc:=zdb xs
   have r9:(smH xs hs).length=288:=by
    have h5:=zfy (cs:=pathL (smLast xs) hs) (ss:=scL (xs.take 32) hs) (n:=k+1) (zff hc d5.o h7) g6 (by rw[zcx,a2.o]) (by rw[g9,a2.o]) om (k+1) lr;rw[smH,a2.o];exact h5
   have s9:Hid (∀W,RdS 20 W A6 (k+1) ((pathL (smLast xs) hs).flatMap Cm.cells)→RdS 192 W A9 (k+1) ((scL (xs.take 32) hs).flatMap Sp.cells)→Calls Tryz.prog 33 #[.slice A6 (k+1) c6,.slice A9 (k+1) c9] W fun e w'=>∃A' c',e=.returned (.tuple #[.slice A' 288 c',.int .i64 0])∧288≤c'∧Rd w' A' 288 (u8s (smH xs hs))∧Below W.heap.size W w'):=fun W h1 h2=>by
    rw[smH,a2.o];refine(zru A6 A9 k c6 c9 (pathL (smLast xs) hs) (scL (xs.take 32) hs) W h1 h2 (zff hc d5.o h7) g6 (by rw[zcx,a2.o]) (by rw[g9,a2.o]) (by rw[←a2.o];exact zlf h7)).mono ?_;rintro e w' ⟨A',c',rfl,B6,ho,hB⟩;exact⟨A',c',rfl,B6,Rd.of_own ho,hB⟩
   obtain⟨o,ho⟩:∃o,hs[0]? = some o:=⟨_,ge9 om⟩;obtain⟨bh,oh,rfl,t8,e5⟩:=zbl t3.o d5.o ho om
   have n3:id0 hs=o.id:=by
    cases hs with
    | nil=>simp at ho
    | cons a l=>simp at ho;subst ho;rfl
   have s6:o.id<18446744073709551616:=(d5.o o (mg9 ho)).1;have y8:Hid (id0 hs<18446744073709551616):=(by show _<_;rw[n3];exact s6);have x9:Hid (w.cell? ⟨bh,oh+1,none⟩=some (.int .u64 (id0 hs:Int))):=by have h5:=e5 1 _ (Ho.at_id o);rwa [Nat.zero_mul,Nat.add_zero,←n3]at h5
   have p1:Hid (∀W,Calls Tryz.prog 34 #[.int .i64 2,.int .i64 8,.int .u64 (id0 hs:Int)] W fun e w'=>e=.returned (.tuple #[.slice (some ⟨W.heap.size,0,none⟩) 8 8,.int .i64 0])∧Blk w' W.heap.size 5 (u8s (Sh.beBytes (id0 hs) 8))∧Below W.heap.size W w'):=fun W=>zwl (id0 hs) W y8.o
   have C9:=qh r9;have a7:=qh D;have v2:=qh g9;have e4:=qh g6;have z6:=qh he;have a4:Hid ((smOwn xs).length=32):=by show _=_;rw[smOwn,if_pos D,List.length_take,List.length_drop,D];rfl
   have b5:=qh (d0.belo V.o);have f3:=qh (d9.belo V.o);have z8:Hid (Rd f9 (some ⟨g,0,none⟩) 80 (u8s xs)):=by have h5:=i4.o;rwa [i5]at h5
   clear d0 d9 g9 g6 r9 e5 ho n3 s6 hc g8 l9 l0 m8 D p9 he i4 g4 r6 o7 x5;rw[m9];clear m9;have n32:¬d=32:=om;have t7:bh<f9.heap.size:=Nat.lt_of_lt_of_le t8 a5.o.size;have p8:f9.cell? ⟨bh,oh+1,none⟩=some (.int .u64 (id0 hs:Int)):=(a5.o.cell (p:=⟨bh,oh+1,none⟩) t8).trans x9.o;have t6:(0:Int)<(k:Int)+1:=om
   go_upto_region 18 with (go_at_call 33;(refine(s9.o _ (by exact b5.o) (by exact f3.o)).mono ?_);rintro e M ⟨m7,t9,rfl,C3,i2,E⟩;have k8:=qtr a5 E;have f6:=qbl k4 E;have e9:=qh (z8.o.below E);have j9:=qbl j6 E;have i6:=qh (f3.o.belo E);have t5:w.heap.size<M.heap.size:=f6.o.lt;have C8:g<M.heap.size:=rd_lt e9.o (by decide);have p3:M.cell? ⟨bh,oh+1,none⟩=some (.int .u64 (id0 hs:Int)):=(E.cell (p:=⟨bh,oh+1,none⟩) t7).trans p8;have k2:=qh i2;clear E i2)
   have t4:=qh (v0.o a7.o);have p4:Hid ((Tryz.prog.info? 28).map (·.size)=some (u8s (xs.drop 64)).length):=by show _=_;rw[zaa,List.length_drop,a7.o];exact hd16b
   have a1:Hid ((xs.drop 64).length=16):=by show _=_;rw[List.length_drop,a7.o]
   have s3:Hid (∀w,(Instr.build 37 [(0,(.agg (u8s (xs.drop 64)).toArray:Value))].toArray).run Tryz.prog w=.ok (.agg (soC (xs.drop 64) (List.replicate 32 0) none 0 0).toArray) w):=fun w=>buildS1 _ a1.o w
   have l8:Hid (∀own B m c,own.length=32→(Tryz.prog.info? 37).map (·.size)=some (soC (xs.drop 64) own B m c).length):=fun own B m c h=>by rw[zdr a1.o h];exact hdSo
   clear v0 j6 m0 b5 f3 s9 V p8 t7 t6
   go_upto_region 20 with (first
    | (go_at_call 34;(refine(p1.o _).mono ?_);rintro e r ⟨rfl,j4,J⟩;have b2:=qtr k8 J;have a3:=qbl f6 J;have d3:=qh (e9.o.below J);have b3:=qh (i6.o.belo J);have i3:=qbl j9 J;have e0:=qh (k2.o.below J);have a6:=qh j4;have z5:=zal i3.o 28 4 (u8s (xs.drop 64)) t4.o _ Tryz.underlying28 rfl p4.o;clear j4 J)
    | (refine zai rfl 37 [(0,.tmp 87)] rfl [(0,.agg (u8s (xs.drop 64)).toArray)] rr _ (s3.o _) ?_)
    | (refine zab rfl 37 (.tmp 20) (.tmp 88) rfl r.heap.size (soC (xs.drop 64) (List.replicate 32 0) none 0 0) rr rr 37 zSo (Blk.new' rfl rfl) (l8.o _ _ _ _ sy) (zd5 _ _ _ _ _) (by rw[zdr a1.o sy,zc0]) ?_;intro g2 k9 k7;have I:Below r.heap.size r g2:=k7.below ((Below.refl _ r).alloc lr _) lr sy;have s8:=qtr b2 I;have s4:=qbl a3 I;have j8:=qh (d3.o.below I);have x8:=qh (b3.o.belo I);have t1:=qh (e0.o.below I);have o9:=qbl a6 I;have k0:=qh k9;have r1:=qh I;clear k9 k7 I))
   have o3:Hid (Rd g2.drew (some ⟨g,32,none⟩) 32 (u8s (smOwn xs))):=by
    have h5:=(j8.o).cut (A':=some ⟨g,0+32,none⟩) (m:=64) (k:=32) om om (fun _ b' off' e=>by injection e with e;injection e with e1 e2;subst e1;subst e2;rfl);rw[Nat.zero_add,List.drop_take,za9,zay,show smOwn xs=(xs.drop 32).take 32 by rw[smOwn,if_pos a7.o]]at *;exact h5
   have k1:Hid (splice (soC (xs.drop 64) (List.replicate 32 0) none 0 0) 16 ((u8s (smOwn xs)).take 32)=soC (xs.drop 64) (smOwn xs) none 0 0):=by
    show _=_
    rw[tk (by rw[zaa,a4.o];exact lr),soC,zc7 _ (u8s (List.replicate 32 0)) _ (u8s (smOwn xs)) 16 (by rw[zaa,a1.o]) (by rw[zaa,zaa,a4.o];rfl),soC]
   have C6:w.heap.size<r.heap.size:=a3.o.lt
   go_region_held3 (fun _=>True) (trivial) ((refine zbs rfl (.tmp 90) (.tmp 92) 22 rfl 5 Tryz.underlying22 zcq r.heap.size 16 32 32 rr (some ⟨g,32,none⟩) 32 (d-32) rr 37 _ (by exact k0.o.drew) (u8s (smOwn xs)) o3.o (zac _) (by rw[zdr a1.o sy];decide) ?_;intro f5 b4 j0))
   rw[k1.o]at b4;generalize goInt ((List.take 32 (u8s (smOwn xs))).length:Int)=v93 at *;have j7:=qh b4;have i7:Below r.heap.size g2 f5:=j0.below (Below.refl _ _).drew lr (by have:=k0.o.lt;show r.heap.size≤g2.heap.size;omega);have k3:Hid (Below r.heap.size r f5):=r1.o.trans i7;have C4:r.heap.size<f5.heap.size:=b4.lt
   have z2:Hid (∀i s,(scL (xs.take 32) hs)[i]? = some s→((smPays xs hs).take i).flatMap u8s++u8s s.pay=((smPays xs hs).take (i+1)).flatMap u8s):=fun i s h=>by
    have z3:(smPays xs hs)[i]? = some s.pay:=by rw[smPays,List.getElem?_map,h];rfl
    rw[List.take_add_one,z3]
    simp
   have q2:Hid ((smPays xs hs).length=k+1):=by show _=_;rw[smPays,List.length_map,v2.o,a2.o]
   obtain⟨b9,G,rfl,_,_⟩:=b3.o.2 om;have f4:Hid (Blk f5 r.heap.size 37 (soC (xs.drop 64) (smOwn xs) none 0 0)):=j7;have b1:Hid (f5.ownsRow (r.heap.size+1) 27 32 (.slice none 0 0) 0 (((smPays xs hs).take 0).flatMap u8s)):=⟨rfl,.inl ⟨rfl,rfl⟩⟩;clear b4 j0 i7 j7 o3 k1 s3 p1 f6 s4 j8 x8 t1 o9 s8 k8 e9 i6 k2 j9 i3 z5 p3 p4 t4
   go_wp2_with fail
   go_loopg [21] (k+1) (fun kk q wr=>∃(i:Nat) (B:Option Addr) (dd:Nat),i≤k+1∧kk=k+1-i∧q=.int .i64 i∧Hid (Blk wr r.heap.size 37 (soC (xs.drop 64) (smOwn xs) B i dd))∧Hid (wr.ownsRow (r.heap.size+1) 27 32 (.slice B i dd) i (((smPays xs hs).take i).flatMap u8s))∧Hid (Below r.heap.size r wr))
   case atStart=>exact⟨0,none,0,by omega,rfl,rfl,f4,b1,k3⟩
   case round =>
    clear f4 b1 k3;obtain⟨i,B,dd,hi,r3,rfl,HB,HO,HD⟩:=hrel;have B7:=qh r3;clear r3
    by_cases hlt:i<k+1
    · have r7:(i:Int)<(k:Int)+1:=om
      obtain⟨s,f7⟩:∃s,(scL (xs.take 32) hs)[i]? = some s:=⟨_,ge9 (by rw[v2.o,a2.o];exact hlt)⟩;have l7:=e4.o s (mg9 f7);have q7:Hid (∀W,Below r.heap.size r W→W.rangeAt b9 (G+i*192+64) (u8s s.pay)):=fun W hW=>(zd4 (b3.o.belo hW) e4.o f7 om 64 s.pay (Sp.pay_at l7)).2
      have d8:Hid ((u8s s.pay).length=32):=(zaa _).trans l7.2.2.1;have s0:=qh (z2.o i s f7);have p6:Hid ((Tryz.prog.info? 27).map (·.size)=some (u8s s.pay).length):=by show _=_;rw[d8.o];exact hd24
      have x2:Hid ((Tryz.prog.info? 27).map (fun i=>((i.zero.map (fun z=>z.cells.size)),i.size))=some (some (u8s s.pay).length,(u8s s.pay).length)):=by show _=_;rw[d8.o];exact iKb
      have n7:Hid (0<(u8s s.pay).length∧(u8s s.pay).length≤16777216):=by show _∧_;rw[d8.o];omega
      have HV:Hid (Blk { wr with drawn:=wr.drawn+1 } r.heap.size 37 (soC (xs.drop 64) (smOwn xs) B i dd)∧Below r.heap.size r { wr with drawn:=wr.drawn+1 }):=⟨HB.o.drew,HD.o.drew⟩;have g1:Hid (i*32+1*32≤140737488355328∧i+1≤140737488355328∧r.heap.size+1≤wr.heap.size):=⟨by omega,by omega,HB.o.lt⟩;have r2:=qh (zac s.pay);have x0:Hid (∀ {W:World},W.rangeAt b9 (G+i*192+64) (u8s s.pay)→(Instr.loadAt 27 (.pointer (some ⟨b9,G+i*192+64,none⟩))).run Tryz.prog W=.ok (.agg (u8s s.pay).toArray) W):=fun h=>run_loadAt_mid _ b9 (G+i*192+64) 27 (u8s s.pay) _ h Tryz.underlying27 rfl p6.o
      clear f7 l7;generalize u8s s.pay=PY at *
      go_upto_region 24 with fail
      refine kgo kr 11 (fun W=>Blk W r.heap.size 37 (soC (xs.drop 64) (smOwn xs) B i dd)∧Below r.heap.size r W) HV.o (fun _ _ _ _ _ h=>h) ?_;refine kp 0 (.pointer (some ⟨r.heap.size,48,none⟩)) rfl kr (fun _=>kr) ?_;refine kl 1 (.slice B i dd) rfl kr (fun w' hw'=>za0 (t:=35) (x:=.tmp 100) rr kr agKb ((hw'.1.cell 48).trans (zns a1.o a4.o B i dd))) ?_;refine kp 2 (.slice (some ⟨b9,G,none⟩) (k+1) c9) rfl kr (fun _=>kr) ?_;refine kp 3 (.int .i64 (i:Int)) rfl kr (fun _=>kr) ?_;refine kp 4 (.pointer (some ⟨b9,G+i*192,none⟩)) rfl kr (fun _=>zby (t:=96) (e:=106) (x:=.tmp 102) (y:=.tmp 103) (n:=k+1) (c:=c9) (p:=i) (sz:=192) rr kr kr hlt Tryz.underlying96 szRs) ?_;refine kp 5 (.pointer (some ⟨b9,G+i*192,none⟩)) rfl kr (fun _=>kr) ?_;refine kp 6 (.pointer (some ⟨b9,G+i*192+64,none⟩)) rfl kr (fun _=>kr) ?_;refine kl 7 (.agg PY.toArray) rfl kr (fun w' hw'=>zaf (x:=.tmp 106) rr kr (x0.o (q7.o w' hw'.2))) ?_;intro q8 q9;clear q8 q9;refine AnyK.main 8 rr kr rfl ?_;intro K hK;refine zkw 35 27 (.tmp 107) rfl PY kr Tryz.underlying35 x2.o n7.o.1 n7.o.2 ?_;refine hK _ _ ⟨fun _=>⟨HV.o.1.alloc _,HV.o.2.alloc HV.o.2.size _⟩,?_⟩;refine AnyK.main 9 rr kr rfl ?_;intro K2 f0;refine zgu (.tmp 101) (.tmp 108) 35 rfl (r.heap.size+1) 27 32 32 Tryz.underlying35 eKb (.slice B i dd) i (((smPays xs hs).take i).flatMap u8s) kr (HO.o.alloc _) (some ⟨wr.heap.size,0,none⟩) 1 1 PY kr (RdS.new _ _ PY 32 d8.o) r2.o g1.o.1 g1.o.2.1 (Nat.le_trans g1.o.2.2 sy) ?_;intro A4 c4 w4 a0 E2 m3 s7;rw[s0.o]at a0;have j3:Value.ownBlock (.slice A4 (i+1) c4)≠some r.heap.size:=fun e=>by have:=(a0.lt _ e).1;omega
      have b7:Blk w4 r.heap.size 37 (soC (xs.drop 64) (smOwn xs) B i dd):=(HB.o.drew.alloc _).grown m3 (fun e=>by have:=(HO.o.lt _ e.symm).1;omega);have f8:Hid (Below r.heap.size r w4):=(HD.o.drew.alloc HD.o.drew.size _).grown m3 (Nat.le_trans HD.o.size sy) (fun q hq=>by have:=(HO.o.lt _ hq).1;omega);refine f0 _ _ ⟨fun _=>⟨b7,f8.o⟩,?_⟩;have y0:=qh (a0.kept (w':=w4.setCell ⟨r.heap.size,48,none⟩ (.slice A4 (i+1) c4)) (row:=some r.heap.size) ⟨rfl,rfl,rfl,by simp[World.setCell],fun q _ hq=>Below.heap_setCell w4 ⟨r.heap.size,48,none⟩ _ q (fun e=>hq (by rw[e]))⟩ (.inr j3));refine AnyK.pure 10 (v:=.pointer (some ⟨r.heap.size,48,none⟩)) rfl kr (fun _ _ _ h=>h) rfl (fun _=>kr) (fun _=>⟨b7,f8.o⟩) ?_;refine AnyK.store 11 (d:=none) (op:=.store 35 (.tmp 110) (.tmp 109)) kr (fun o ho=>zs9 (p:=⟨r.heap.size,48,none⟩) (v:=.slice A4 (i+1) c4) ho kr kr rfl szKs ((b7.cell 48).trans (zns a1.o a4.o B i dd)) (b7.frozen 48)) kr (fun h=>(by cases h)) ?_;refine AnyK.done kr ?_
      have h8:Hid (Blk (w4.setCell ⟨r.heap.size,48,none⟩ (.slice A4 (i+1) c4)) r.heap.size 37 (soC (xs.drop 64) (smOwn xs) A4 (i+1) c4)):=by
       have h5:=b7.set_ 48 (.slice A4 (i+1) c4);rw[zxe a1.o a4.o]at h5;exact h5
      have l2:=qh (f8.o.setCell (p:=⟨r.heap.size,48,none⟩) lr (.slice A4 (i+1) c4));generalize w4.setCell ⟨r.heap.size,48,none⟩ (.slice A4 (i+1) c4)=w5 at *;clear a0 m3 s7 b7 f8 j3 HV x0 q7 r2 p6 x2 n7 d8 s0 g1 hK f0
      go_wp2_with fail
      go_roundg (k+1-(i+1))
      case measure=>have:=B7.o;omega
      case rel=>exact⟨i+1,A4,c4,by omega,rfl,by go_num,h8,y0,l2⟩
    · obtain rfl:i=k+1:=om
      have r7:¬(((k+1:Nat):Int)<(k:Int)+1):=om;rw[show((k+1:Nat):Int)=(k:Int)+1 from rfl]
      have z9:Hid (RdS 32 wr B (k+1) ((smPays xs hs).flatMap u8s)):=by
       have h5:=HO.o;rw[tk (by rw[q2.o];exact lr)]at h5;exact RdS.ofOwn2 h5
      have D1:M.heap.size<r.heap.size:=a6.o.lt;have D7:r.heap.size<wr.heap.size:=HB.o.lt;have z4:Hid (∀W,Blk W r.heap.size 37 (soC (xs.drop 64) (smOwn xs) B (k+1) dd)→(Instr.loadAt 37 (.pointer (some ⟨r.heap.size,0,none⟩))).run Tryz.prog W=.ok (.agg (soC (xs.drop 64) (smOwn xs) B (k+1) dd).toArray) W):=fun W h=>zal h 37 0 _ (by rw[List.drop_zero,List.take_length]) _ Tryz.underlying37 rfl (l8.o _ _ _ _ a4.o)
      have r4:=qh (l8.o (smOwn xs) B (k+1) dd a4.o);have B5:Hid ((soC (xs.drop 64) (smOwn xs) B (k+1) dd).length=zSo.length):=by show _=_;rw[zdr a1.o a4.o,zc0]
      have y4:Hid (wr.drew.ownsRow (w.heap.size+1) 5 1 (.slice (some ⟨M.heap.size,0,none⟩) 8 8) 8 (u8s (Sh.beBytes (id0 hs) 8))):=by
       have h5:=zbg (base:=w.heap.size+1) ((a6.o.below HD.o a6.o.lt).drew) t5 8 8 1 lr (by rw[zaa,Sh.beBytes_len]) (by decide)
       rwa [tk (by rw[zaa,Sh.beBytes_len];exact lr)]at h5
      have A7:Hid (Rd wr.drew m7 288 (u8s (smH xs hs))):=(e0.o.below HD.o).drew
      have y6:Hid (Rd wr.drew (some ⟨g,0+32,none⟩) 32 (u8s (smOwn xs))):=by
       have h5:=((d3.o.below HD.o).drew).cut (A':=some ⟨g,0+32,none⟩) (m:=64) (k:=32) om om (fun _ b' off' e=>by injection e with e;injection e with e1 e2;subst e1;subst e2;rfl);rw[List.drop_take,za9,zay]at h5;rw[smOwn,if_pos a7.o];exact h5
      have z7:Hid (Blk wr.drew w.heap.size 37 zSo):=(a3.o.below HD.o a3.o.lt).drew;have e6:Hid (Below w.heap.size w wr.drew):=(b2.o.trans (HD.o.mono b2.o.size)).drew
      have b1:Hid (wr.drew.ownsRow (r.heap.size+1) 27 32 (.slice B (k+1) dd) (k+1) ((smPays xs hs).flatMap u8s)):=by
       have h5:=HO.o;rw[tk (by rw[q2.o];exact lr)]at h5;exact h5
      have f4:Hid (Blk wr.drew r.heap.size 37 (soC (xs.drop 64) (smOwn xs) B (k+1) dd)):=HB.o.drew;have B0:Hid (u8s (Sh.beBytes (id0 hs) 8)++u8s (smH xs hs)++u8s (smOwn xs)=u8s (smL xs hs)):=by show _=_;rw[←zae,←zae,smL,as9]
      have n0:Hid (∀A6 c6 W,328≤c6→Rd W A6 328 (u8s (smL xs hs))→RdS 32 W B (k+1) ((smPays xs hs).flatMap u8s)→Below w.heap.size w W→RmP w xs hs (k+1) (.returned (.tuple #[.slice A6 328 c6,.agg (soC (xs.drop 64) (smOwn xs) B (k+1) dd).toArray,.int .i64 0])) W):=fun A6 c6 W h1 h2 h3 h4=>⟨.inr ⟨z6.o,A6,c6,B,dd,rfl,h1,h2,h3⟩,h4⟩
      have q3:wr.drew.heap.size=wr.heap.size:=rfl;have y2:=qh q3;have p5:Hid (64≤d):=(by show _≤_;omega);have j1:Hid (w.heap.size+1≤wr.drew.heap.size):=(by show _≤wr.heap.size;omega);clear q3 z9 HB HO HD e0 d3 a3 b2 a6 b3
      go_upto_region 25 with fail
      refine kgo kr 8 (fun W=>Blk W r.heap.size 37 (soC (xs.drop 64) (smOwn xs) B (k+1) dd)) f4.o (fun _ _ _ _ _ h=>h) ?_;refine kp 0 (.slice (some ⟨M.heap.size,0,none⟩) 8 8) rfl kr (fun _=>kr) ?_;refine kp 1 (.slice m7 288 t9) rfl kr (fun _=>kr) ?_;refine kp 3 (.slice (some ⟨g,0,none⟩) 80 d) rfl kr (fun _=>kr) ?_;refine kp 4 (.slice (some ⟨g,0+32,none⟩) 32 (d-32)) rfl kr (fun _=>zzb (x:=.tmp 114) (n:=80) rr kr p5.o) ?_;refine kl 6 (.agg (soC (xs.drop 64) (smOwn xs) B (k+1) dd).toArray) rfl kr (fun w' hw'=>zaf (x:=.tmp 20) rr kr (z4.o w' hw')) ?_;intro q8 q9;clear q8 q9;refine AnyK.main 2 rr kr rfl ?_;intro K hK;refine zgu (.tmp 111) (.tmp 112) 22 rfl (w.heap.size+1) 5 1 1 Tryz.underlying22 eU8 (.slice (some ⟨M.heap.size,0,none⟩) 8 8) 8 (u8s (Sh.beBytes (id0 hs) 8)) kr (by exact y4.o) m7 288 t9 (u8s (smH xs hs)) kr (by exact A7.o.toS) (zac _) (by decide) (by decide) (by exact j1.o) ?_;intro A5 c5 w5 d7 D5 o1 i9;have U:wr.drew.grownBy w5 (some M.heap.size):=o1;have v5:Hid (wr.drew.heap.size≤w5.heap.size):=o1.size;have h8:=qh (f4.o.grown U (fun e=>by injection e with e;omega));have C1:=qh (z7.o.grown U (fun e=>by injection e with e;omega));have B4:=qh (b1.o.kept U (.inr fun e=>by have:=(b1.o.lt _ e).1;omega));have i0:=qh (y6.o.grown0 U (fun _ ad e e2=>by injection e with e;subst e;injection e2 with e2;have e3:M.heap.size=g:=e2;omega));have a8:=qh (e6.o.grown U e6.o.size (fun q hq=>by injection hq with hq;omega))
      have x4:∀q,Value.ownBlock (.slice A5 (8+288) c5)=some q→q=M.heap.size∨q=wr.heap.size:=fun q hq=>by
       rcases i9 with h5|h5
       · rw[h5]at hq;injection hq with hq;exact .inl hq.symm
       · rw[h5]at hq;injection hq with hq;exact .inr hq.symm
      have g5:=qh x4;have y7:=qh d7;clear d7 o1 i9 x4 U;refine hK _ _ ⟨fun _=>h8.o,?_⟩;refine AnyK.main 5 rr kr rfl ?_;intro K2 f0;refine zgu (.tmp 113) (.tmp 115) 22 rfl (w.heap.size+1) 5 1 1 Tryz.underlying22 eU8 (.slice A5 (8+288) c5) (8+288) (u8s (Sh.beBytes (id0 hs) 8)++u8s (smH xs hs)) kr (by exact y7.o) (some ⟨g,0+32,none⟩) 32 (d-32) (u8s (smOwn xs)) kr (by exact i0.o.toS) (zac _) (by decide) (by decide) (by exact Nat.le_trans j1.o v5.o) ?_;intro A6 c6 w6 Y B9 d6 s1;rw[B0.o]at Y;have o5:=qh (h8.o.grown d6 (fun e=>by rcases g5.o _ e.symm with h|h <;> omega));have B2:=qh (C1.o.grown d6 (fun e=>by rcases g5.o _ e.symm with h|h <;> omega));have a9:=qh (a8.o.grown d6 a8.o.size (fun q hq=>by rcases g5.o _ hq with h|h <;> omega))
      have x3:=qh (B4.o.kept d6 (.inr fun e=>by
       obtain⟨q,hq⟩:∃q,Value.ownBlock (.slice B (k+1) dd)=some q:=by
        cases hv:Value.ownBlock (.slice B (k+1) dd)with
        | none => rcases b1.o.2 with ⟨_,h0⟩|⟨q,_,_,y3,_⟩
                  · omega
                  · rw[y3]at hv;cases hv
        | some q=>exact⟨q,rfl⟩
       have h1:=b1.o.lt q hq;have h2:=y2.o
       rcases g5.o q (by rw[←e,hq])with h|h <;> omega))
      have B8:=qh (Rd.of_own Y);have z1:=qh Y.lt;clear Y d6 s1;refine f0 _ _ ⟨fun _=>o5.o,?_⟩;refine AnyK.val 7 (v:=.slice A6 328 c6) rr kr rfl kr (fun _=>o5.o) ?_;refine AnyK.storeAll 8 w.heap.size (soC (xs.drop 64) (smOwn xs) B (k+1) dd) 37 zSo rr rfl rfl rr kr kr kr B2.o r4.o (zd5 _ _ _ _ _) B5.o (fun _ _ _ h=>(by cases h)) ?_;intro w7 x7 i1;have B1:=qh x7;have y5:=qh (i1.below a9.o lr a9.o.size)
      have x1:Hid (Rd w7 A6 328 (u8s (smL xs hs))∧RdS 32 w7 B (k+1) ((smPays xs hs).flatMap u8s)) :=
       ⟨i1.rd B8.o fun ad e=>by
        have h5:=(z1.o ad.block (by rw[e];rfl)).1
        omega,RdS.ofOwn2 (x3.o.kept i1.grown (.inr fun e=>by have:=(x3.o.lt _ e).1;omega))⟩
      refine AnyK.val 9 (v:=.int .i64 0) rr kr rfl kr (fun h=>(by cases h)) ?_;refine AnyK.done kr ?_;clear x7 i1 hK f0;go_wp2;exact bodyPost_ret (zrk (p:=5) (q:=4) (u:=6) (ty:=37) rfl _ w.heap.size _ (soC (xs.drop 64) (smOwn xs) B (k+1) dd) kr B1.o _ Tryz.underlying37 rfl r4.o) rfl (n0.o _ _ _ B9 x1.o.1 x1.o.2 y5.o)
 · have m9:¬((smE xs hs:Nat):Int)=0:=om
   have i8:∀W,Below w.heap.size w W→RmP w xs hs m (.returned (.tuple #[.slice none 0 0,.agg zSo.toArray,.int .i64 (smE xs hs:Int)])) W:=fun W h=>⟨.inl ⟨he,rfl⟩,h⟩
   have n0:=qh i8;clear i8 he g8 l9;generalize smE xs hs=SE at *
   go_wp2_with (first
    | (refine zai rfl 37 [] rfl [] rr _ (bldSo _) ?_)
    | (refine zab rfl 37 (.tmp 5) (.tmp 69) rfl w.heap.size zSo rr rr 37 zSo (by exact k4.o) j5.o (zd5 _ _ _ _ _) rfl ?_;intro M v6 r0))
   have E:=r0.below a5.o lr a5.o.size;exact bodyPost_ret (zrk (p:=5) (q:=4) (u:=6) (ty:=37) rfl _ w.heap.size _ zSo kr v6 _ Tryz.underlying37 rfl j5.o) rfl (n0.o _ E)
end
