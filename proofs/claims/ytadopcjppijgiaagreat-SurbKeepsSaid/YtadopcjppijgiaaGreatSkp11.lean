/- Part of the proof. -/
import Derived.Lib.ConvBytes
import Derived.Lib.AtoiErrMem
import Derived.Lib.SlBytesConst
import Derived.Test.YtadopcjppijgiaaGreatSkp05
import Derived.Test.YtadopcjppijgiaaGreatSkp09
set_option linter.all false
set_option maxRecDepth 100000
set_option maxHeartbeats 0
namespace Go.Proofs.YtadopcjppijgiaaGreat
open Go.RowKit
theorem hd145:(Tryz.prog.info? 187).map (·.size)=some 64:=by kernel_rfl
theorem zep(s:List UInt8)(h:s.length≤64):splice (u8s (List.replicate 64 0)) 0 ((u8s s).take 64)=u8s (Mc.padded s):=by
 rw[tk (by rw[zaa];exact h)]
 unfold splice Mc.padded
 rw[List.take_zero,List.nil_append,Nat.zero_add,zaa,za9,zae,List.drop_replicate]
theorem zna(A:Option Addr)(n c:Nat)(k:List UInt8)(w:World)(h:Rd w A n (u8s k))(hn:n≤64):
 Calls Tryz.prog 125 #[.slice A n c] w fun e w'=>e=.returned (.agg (u8s (Mc.key64 k)).toArray)∧Below w.heap.size w w':=by
 have J:k.length=n:=h.len;have hK:Mc.key64 k=Mc.padded k:=by unfold Mc.key64;rw[if_neg om]
 have r:(Mc.padded k).length=64:=Mc.padded_len om;have D:=qh (zep k om);have HI:Hid ((Tryz.prog.info? 187).map (·.size)=some (u8s (Mc.padded k)).length):=by rw[zaa,r];exact hd145
 have HL:Hid ((u8s (Mc.padded k)).length=(u8s (List.replicate 64 0)).length):=by show _=_;rw[zaa,r];rfl
 have H1:Hid (∀v∈u8s (Mc.padded k),v.oneCell'=true):=zac _;obtain⟨U,hU⟩:=ex9 (u8s (Mc.padded k));rw[←hU]at HI HL H1 D;have HU:Hid (U=u8s (Mc.key64 k)):=by rw[hK];exact hU
 have HR:=qh h;have Y:¬(64:Int)<(n:Int):=om;clear J hK r hU h
 go_enter Tryz.func125, Tryz.ntmps125
 go_wp2_with (first
  | (refine zav rfl (.tmp 14) (.tmp 15) 22 rfl 5 Tryz.underlying22 zbk (w.heap.size+1) 0 64 64 rr A n c rr 187 (u8s (List.replicate 64 0)) (by exact Blk.new' sy rfl) (u8s k) (by exact(HR.o.alloc _).alloc _) (zac _) (by rw[zaa];exact lr) ?_;intro w1 I E;rw[D.o]at I;have G:Hid (Below w.heap.size w w1):=E.below (((Below.refl _ _).alloc lr _).alloc sy _) om (by simp;omega);have V:Hid (Blk w1 w.heap.size 187 (u8s (List.replicate 64 0))):=E.blk ((Blk.new' rfl rfl).alloc _) om)
  | refine wpList_load_mid rfl 187 (.tmp 3) rfl (w.heap.size+1) 0 rr U _ I.range Tryz.underlying187 rfl HI.o ?_
  | (refine zab rfl 187 (.tmp 2) (.tmp 17) rfl w.heap.size U rr rr 187 _ V.o HI.o H1.o HL.o ?_;intro w8 X M))
 exact bodyPost_ret (zan rfl _ w.heap.size _ U rfl X _ Tryz.underlying187 rfl HI.o) rfl ⟨by rw[HU.o],M.below G.o lr G.o.size⟩
theorem ztl(A:Option Addr)(n c:Nat)(k:List UInt8)(w:World)(h:Rd w A n (u8s k))(hc:n≤c)(hn:64<n)(b6:n≤1000000000):
 Calls Tryz.prog 125 #[.slice A n c] w fun e w'=>e=.returned (.agg (u8s (Mc.key64 k)).toArray)∧Below w.heap.size w w':=by
 have a2:k.length=n:=h.len;have hK:Mc.key64 k=Mc.padded (Sh.sha k):=by unfold Mc.key64;rw[if_pos om]
 have E:=Sh.sha_len k;have D:(Mc.padded (Sh.sha k)).length=64:=Mc.padded_len om;have V:=qh (zep (Sh.sha k) om);have HI:Hid ((Tryz.prog.info? 187).map (·.size)=some (u8s (Mc.padded (Sh.sha k))).length):=by rw[zaa,D];exact hd145
 have HL:Hid ((u8s (Mc.padded (Sh.sha k))).length=(u8s (List.replicate 64 0)).length):=by show _=_;rw[zaa,D];rfl
 have H1:Hid (∀v∈u8s (Mc.padded (Sh.sha k)),v.oneCell'=true):=zac _;obtain⟨U,hU⟩:=ex9 (u8s (Mc.padded (Sh.sha k)));rw[←hU]at HI HL H1 V;have HU:Hid (U=u8s (Mc.key64 k)):=by rw[hK];exact hU
 have a1:Hid ((Tryz.prog.info? 27).map (·.size)=some (u8s (Sh.sha k)).length):=by rw[zaa,E];exact hd24
 have a5:Hid ((u8s (Sh.sha k)).length=(u8s (List.replicate 32 0)).length):=by show _=_;rw[zaa,E];rfl
 have HS:=qh E;have HR:=qh h
 have b1:Hid (∀W A1 c1,RdB W A1 1 [k]→Calls Tryz.prog 129 #[.slice A1 1 c1] W fun e w'=>e=.returned (.agg (u8s (Sh.sha k)).toArray)∧Below W.heap.size W w'):=fun W A1 c1 hr=>by
  have:=zqo A1 1 c1 [k] W hr om (by simp;omega)
  simpa using this
 have a9:Hid (∀(W:World) (g:Nat),g=W.heap.size→Rd W A n (u8s k)→RdB (W.alloc (.cells #[.slice A n c] 22)) (some ⟨g,0,none⟩) 1 [k]):=fun W g hg hr=>RdB.of_blk (ls:=[k]) (Blk.new' (cs:=[.slice A n c]) hg rfl) ⟨.of_rd (hr.alloc _) hc,trivial⟩
 have b7:(64:Int)<(n:Int):=om;clear a2 hK D hU h E
 go_enter Tryz.func125, Tryz.ntmps125
 go_wp2_with (first
  | (go_at_call 129;(with_reducible refine(b1.o _ _ _ (by exact a9.o _ _ sy ((HR.o.alloc _).alloc _))).mono ?_);rintro e w1 ⟨rfl,r⟩;have b5:w.heap.size+2<w1.heap.size+1:=by have:=r.size;simp at this;omega
     have G:Hid (Below w.heap.size w w1):=((((Below.refl _ _).alloc lr _).alloc sy _).alloc (by simp;omega) _).trans (r.mono (by simp;omega));have b2:Hid (Blk w1 w.heap.size 187 (u8s (List.replicate 64 0))):=(((Blk.new' rfl rfl).alloc _).alloc _).below r (by simp;omega);have b4:Hid (Blk w1 (w.heap.size+1) 187 (u8s (List.replicate 64 0))):=((Blk.new' sy rfl:Blk _ (w.heap.size+1) _ _).alloc _).below r sy
     clear r)
  | (refine zab rfl 27 (.tmp 4) (.tmp 10) rfl w1.heap.size (u8s (Sh.sha k)) rr rr 27 (u8s (List.replicate 32 0)) (by exact Blk.new' rfl rfl) a1.o (zac _) a5.o ?_;intro w2 Y I;have X:Hid (Below w.heap.size w w2):=I.below (G.o.alloc G.o.size _) G.o.size (Nat.le_trans G.o.size sy);have a8:Hid (Blk w2 w.heap.size 187 (u8s (List.replicate 64 0))):=I.blk (b2.o.alloc _) om;have a4:Hid (Blk w2 (w.heap.size+1) 187 (u8s (List.replicate 64 0))):=I.blk (b4.o.alloc _) om;have a6:Hid (Rd w2.drew (some ⟨w1.heap.size,0,none⟩) 32 (u8s (Sh.sha k))):=by { have h5:=Y.rdAll;rw[HS.o]at h5;exact h5.drew }
     clear Y I))
 go_region_held3 (fun _=>True) (trivial) ((refine zbs rfl (.tmp 11) (.tmp 12) 22 rfl 5 Tryz.underlying22 zbk (w.heap.size+1) 0 64 64 rr (some ⟨w1.heap.size,0,none⟩) 32 32 rr 187 (u8s (List.replicate 64 0)) (by exact a4.o.drew) (u8s (Sh.sha k)) (by exact a6.o) (zac _) (by rw[zaa];exact lr) ?_;intro w3 a0 J))
 rw[V.o]at a0;have M:Hid (Below w.heap.size w w3):=J.below X.o.drew om X.o.size;have a7:Hid (Blk w3 w.heap.size 187 (u8s (List.replicate 64 0))):=J.blk a8.o.drew om
 go_wp2_with (first
  | refine wpList_load_mid rfl 187 (.tmp 3) rfl (w.heap.size+1) 0 rr U _ a0.range Tryz.underlying187 rfl HI.o ?_
  | (refine zab rfl 187 (.tmp 2) (.tmp 17) rfl w.heap.size U rr rr 187 _ a7.o HI.o H1.o HL.o ?_;intro w8 b3 a3))
 exact bodyPost_ret (zan rfl _ w.heap.size _ U rfl b3 _ Tryz.underlying187 rfl HI.o) rfl ⟨by rw[HU.o],a3.below M.o lr M.o.size⟩
theorem ztm(A:Option Addr)(n c:Nat)(k:List UInt8)(w:World)(h:Rd w A n (u8s k))(hc:n≤c)(r:n≤1000000000):
 Calls Tryz.prog 125 #[.slice A n c] w fun e w'=>e=.returned (.agg (u8s (Mc.key64 k)).toArray)∧Below w.heap.size w w':=by
 rcases Nat.lt_or_ge 64 n with h1|h1
 · exact ztl A n c k w h hc h1 r
 · exact zna A n c k w h h1
theorem zq3{P:Program}{w:World}(t e:TypeId)(n i:Nat)(us:List Value)(x:Value)(h:P.underlying t=some (.array n e))(hs:∀w,(sizeOf e).run P w=.ok 1 w)(hg:∀w,(isAgg e).run P w=.ok false w)(hi:i<n)(hx:us[i]? = some x):(Instr.index t (.agg us.toArray) (.int .i64 i)).run P w=.ok x w:=by
 have h1:(0:Int)≤(i:Int)∧(i:Int)<(n:Int):=om;simp only[Instr.index,asIntOf,Sem.run_bind,Sem.run_pure,Result.andThen_ok,run_underlying h,h1,and_self,if_true,hs,Nat.mul_one,Int.toNat_natCast]
 unfold part
 have h2:us.toArray[i]? = some x:=by simpa using hx
 simp only[Sem.run_bind,hg,Result.andThen_ok,Bool.false_eq_true,if_false,h2,Sem.run_pure]
theorem szU8(w:World):(sizeOf 5).run Tryz.prog w=.ok 1 w:=by kernel_rfl
theorem agU8(w:World):(isAgg 5).run Tryz.prog w=.ok false w:=by kernel_rfl
theorem zsm(k:List UInt8)(m x:UInt8)(i:Nat)(hx:k[i]? = some x):(u8s (Mc.mask (k.take i) m++List.replicate (k.length-i) 0)).set i (.int .u8 (x ^^^ m).toNat)=u8s (Mc.mask (k.take (i+1)) m++List.replicate (k.length-(i+1)) 0):=by
 have hi:=(gi9.1 hx).1;obtain⟨r,hr⟩:∃r,k.length-i=r+1:=⟨k.length-i-1,by omega⟩;have hl:(Mc.mask (k.take i) m).length=i:=by rw[Mc.mask_len,List.length_take];omega
 rw[hr,show k.length-(i+1)=r by omega,List.take_add_one,hx]
 unfold Mc.mask at *
 rw[List.map_append,zae,zae,zae,List.set_append_right _ _ (by rw[zaa];omega),zaa,hl,Nat.sub_self,List.replicate_succ]
 simp[u8s,u8]
theorem zi5(k:List UInt8)(m:UInt8)(w:World)(hk:k.length=64):
 Calls Tryz.prog 126 #[.agg (u8s k).toArray,.int .u8 m.toNat] w fun e w'=>e=.returned (.slice (some ⟨w.heap.size+1,0,none⟩) 64 64)∧Blk w' (w.heap.size+1) 5 (u8s (Mc.mask k m))∧Below w.heap.size w w':=by
 have HI:Hid ((Tryz.prog.info? 187).map (·.size)=some (u8s k).length):=by rw[zaa,hk];exact hd145
 have HK:=qh hk;have D:=qh (fun(W:World) (i:Nat) (x:UInt8) (hi:i<64) (hx:k[i]? = some x)=>zq3 (P:=Tryz.prog) (w:=W) 187 5 64 i (u8s k) (.int .u8 x.toNat) Tryz.underlying187 szU8 agU8 hi (by rw[u8s_getElem?,hx];rfl));obtain⟨U,hU⟩:=ex9 (u8s k);rw[←hU]at HI D ⊢;clear hk hU
 go_enter Tryz.func126, Tryz.ntmps126
 go_wp2_with (first
  | (refine zaj rfl (.const (.int .i64 64)) (.const (.int .i64 64)) 22 rfl 5 (.int .u8 0) 1 Tryz.underlying22 iU8 rfl .i64 .i64 64 64 rr rr 64 64 rfl rfl lr om om ?_;intro w1 I r X;have V:Hid (w1.rangeAt w.heap.size 0 U):=((Blk.new w 187 U).below (zad r) sy).range;have a0:Hid (Below w.heap.size w w1):=((Below.refl _ _).alloc lr _).trans ((zad r).mono sy);have a1:Hid (Blk w1 (w.heap.size+1) 5 (u8s (Mc.mask (k.take 0) m++List.replicate (k.length-0) 0))):=by { rw[HK.o];have h5:=I;rw[show(w.alloc (.cells U.toArray 187)).heap.size=w.heap.size+1 by simp]at h5;exact h5 }
     clear I r X)
  | (refine wpList_load_mid rfl 187 (.tmp 2) rfl w.heap.size 0 rr U _ V.o Tryz.underlying187 rfl HI.o ?_))
 go_loopg [10] 64 (fun kk q wr=>∃i:Nat,i≤64∧kk=64-i∧q=.int .i64 i∧Blk wr (w.heap.size+1) 5 (u8s (Mc.mask (k.take i) m++List.replicate (k.length-i) 0))∧Below w.heap.size w wr)
 case atStart=>exact⟨0,by omega,rfl,rfl,a1.o,a0.o⟩
 case round =>
  obtain⟨i,hi,E,rfl,hb,hB⟩:=hrel;have J:=qh E;clear E
  by_cases hlt:i<64
  · obtain⟨x,hx⟩:∃x,k[i]? = some x:=⟨_,ge9 (by rw[HK.o];exact hlt)⟩
    have a2:=fun W=>D.o W i x hlt hx
    have HS:=qh (zsm k m x i hx);have A:(Mc.mask (k.take i) m++List.replicate (k.length-i) 0).length=64:=by rw[la9,Mc.mask_len,List.length_take,lp9,HK.o];omega
    obtain⟨O,hO⟩:=ex9 (Mc.mask (k.take i) m++List.replicate (k.length-i) 0);rw[←hO]at hb HS A;obtain⟨y,hy⟩:∃y,O[i]? = some y:=⟨_,ge9 om⟩;have q0:wr.cell? ⟨w.heap.size+1,i,none⟩=some (.int .u8 y.toNat):=by rw[hb.cell,u8s_getElem?,hy];rfl
    have f0:=hb.frozen i;have Y:=qh (zgw x m);clear hx hO hy A
    go_wp2_with fail
    rw[Y.o];have G:=qh (hb.set_ i (.int .u8 (x ^^^ m).toNat));rw[HS.o]at G;have M:=qh (hB.setCell (p:=⟨w.heap.size+1,i,none⟩) (Nat.le_succ _) (.int .u8 (x ^^^ m).toNat));go_roundg (64-(i+1))
    case measure=>have:=J.o;omega
    case rel=>exact⟨i+1,by omega,rfl,by go_num,G.o,M.o⟩
  · obtain rfl:i=64:=om
    have hE:Mc.mask (k.take 64) m++List.replicate (k.length-64) 0=Mc.mask k m:=by rw[HK.o,tk (by rw[HK.o];exact lr)];simp
    rw[hE]at hb;clear hE
    go_wp2_with fail
    go_ret;exact⟨rfl,hb,hB⟩
def tCells(K:List Value):List Value:=hCells [0,0,0,0,0,0,0,0] (List.replicate 64 0) 0 K
theorem zc149:Tryz.zeroCells191 = (tCells (u8s (List.replicate 64 0))).toArray:=by kernel_rfl
theorem zoz(K:List Value)(h:K.length=64):(tCells K).length=137:=by unfold tCells;rw[zb9 rfl sy,h]
def places149:Array (Nat × Nat):=#[(0,73),(73,64)]
theorem pl149(r:Array Field)(h:Tryz.prog.underlying 191 = some (.struct r))(w:World):(r.mapM (fun f=>do pure (f.offset,←sizeOf f.type)):Sem (Array (Nat × Nat))).run Tryz.prog w=.ok places149 w:=by
 rw[Tryz.underlying191]at h
 injection h with h
 injection h with h
 subst h
 kernel_rfl
theorem zjm(K:List Value)(hK:K.length=64):splice (tCells (u8s (List.replicate 64 0))) 73 K=tCells K:=by
 have e:∀L,tCells L=tCells []++L:=fun L=>by unfold tCells hCells;simp
 have r:(tCells []).length=73:=rfl;rw[e (u8s _),e K]
 unfold splice
 rw[List.take_append_of_le_length om,tk om,List.drop_of_length_le (by rw[la9,r,zaa,hK];simp),List.append_nil]
theorem build149(K:List Value)(hK:K.length=64)(w:World):(Instr.build 191 #[(1,.agg K.toArray)]).run Tryz.prog w=.ok (.agg (tCells K).toArray) w:=by
 refine zbt Tryz.zeroValue191 Tryz.underlying191 (pl149 _ Tryz.underlying191) ?_ w;rw[zc149]
 show Instr.fill _ _ [(1,_)]=_
 rw[zat (cs:=K) rfl (by rw[hK];rfl) (by rw[hK,zoz _ (by simp[zaa])];omega),zjm K hK]
 rfl
theorem zo0(st:List UInt32)(op:List UInt8)(n:Nat)(K:List Value)(h1:st.length=8)(h2:op.length=64):((hCells st op n K).drop 73).take K.length=K:=by
 have e:hCells st op n K=hCells st op n []++K:=by unfold hCells;simp
 have r:(hCells st op n []).length=73:=by rw[zb9 h1 h2];rfl
 rw[e,List.drop_append_of_le_length om,List.drop_of_length_le om,List.nil_append,List.take_length]
theorem HashIn.key{w:World}{g:Nat}{T:TypeId}{K:List Value}{l:List UInt8}(h:HashIn w g T K l):w.rangeAt g 73 K:=by
 obtain⟨st,op,hb,hst⟩:=h;refine hb.mid 73 K fun j v hv=>?_
 have e:=zo0 st op l.length K hst.len hst.olen;rw[←e,List.getElem?_take]at hv
 split at hv
 · simpa using hv
 · cases hv
theorem RdX.one{W:World}{g b gp n:Nat}{T:TypeId}{M:List UInt8}(hr:Rd W (some ⟨b,0,none⟩) n (u8s M))(r:b≠g)(A:gp=W.heap.size)(hg:g<W.heap.size):RdX (W.alloc (.cells #[.slice (some ⟨b,0,none⟩) n n] T)) g (some ⟨gp,0,none⟩) 1 [M]:=by
 refine⟨[.slice (some ⟨b,0,none⟩) n n],?_,fun _ ad e=>by injection e with e;subst e;show gp≠g;omega,rfl,fun i v hi=>?_⟩
 · have:=(Blk.new' (cs:=[.slice (some ⟨b,0,none⟩) n n]) (t:=T) A rfl).rd 0 1 sy
   simpa using this
 · cases i with
   | zero=>simp at hi;subst hi;exact⟨M,rfl,_,_,_,rfl,lr,hr.alloc _,fun _ ad e=>by injection e with e;subst e;exact r⟩
   | succ i=>simp at hi
theorem zj3(A:Option Addr)(n c:Nat)(k:List UInt8)(w:World)(h:Rd w A n (u8s k))(hc:n≤c)(b5:n≤1000000000):
 Calls Tryz.prog 101 #[.slice A n c] w fun e w'=>∃g,e=.returned (.pointer (some ⟨g,0,none⟩))∧w.heap.size≤g∧HashIn w' g 191 (u8s (Mc.key64 k)) (Mc.mask (Mc.key64 k) 54)∧Below w.heap.size w w':=by
 have a6:=qh (ztm A n c k w h hc b5);have E:=Mc.key64_len k;have a0:Hid (∀W:World,Calls Tryz.prog 126 #[.agg (u8s (Mc.key64 k)).toArray,.int .u8 54] W fun e w'=>e=.returned (.slice (some ⟨W.heap.size+1,0,none⟩) 64 64)∧Blk w' (W.heap.size+1) 5 (u8s (Mc.mask (Mc.key64 k) 54))∧Below W.heap.size W w'):=fun W=>zi5 (Mc.key64 k) 54 W E
 have a2:Hid ((u8s (Mc.key64 k)).length=64):=by show _=_;rw[zaa,E]
 have V:Hid ((Mc.mask (Mc.key64 k) 54).length=64):=by show _=_;rw[Mc.mask_len,E]
 obtain⟨K,hK⟩:=ex9 (u8s (Mc.key64 k));rw[←hK]at a6 a0 a2 ⊢;have b2:=qh (fun W=>build149 K a2.o W);obtain⟨M,hM⟩:=ex9 (Mc.mask (Mc.key64 k) 54);rw[←hM]at a0 V ⊢;clear E hK hM h
 go_enter Tryz.func101, Tryz.ntmps101
 go_wp2_with (first
  | (go_at_call 125;(with_reducible refine a6.o.mono ?_);rintro e w1 ⟨rfl,G⟩)
  | (refine zai rfl 191 [(1,.tmp 5)] rfl _ rr (.agg (tCells K).toArray) (b2.o _) ?_))
 have HW:=qh (fun W A1 (hin:HashIn W w1.heap.size 191 K []) (hr:RdX W w1.heap.size A1 1 [M])=>zgt w1.heap.size 191 K [] A1 1 1 [M] W hin hr om (by simp;have:=V.o;omega));have r:Hid (HashIn (w1.alloc (.cells (tCells K).toArray 191)) w1.heap.size 191 K []):=⟨_,_,Blk.new w1 _ _,Sh.hst_nil _ _ rfl sy⟩;have U:=r.o.key;have a3:Hid (Below w.heap.size w (w1.alloc (.cells (tCells K).toArray 191))):=G.alloc G.size _;obtain⟨w2,X⟩:=ex9 (w1.alloc (.cells (tCells K).toArray 191));have b7:w1.heap.size<w2.heap.size:=by rw[X];simp
 have a7:=G.size;rw[←X]at r U a3 ⊢;clear X G;generalize w1.heap.size=g at *;have a1:=Tryz.underlying187;have a5:(Tryz.prog.info? 187).map (·.size)=some K.length:=by rw[a2.o];exact hd145
 go_region_held3 (fun W'=>W'.rangeAt g 73 K) (first|assumption|exact r.o.key|exact a4|exact zd9 a4 _|exact a8) (first
  | (go_at_call 126;(with_reducible refine(a0.o _).mono ?_);rintro e w3 ⟨rfl,a9,b1⟩;have I:=qh ((r.o.below (Below.refl _ _).drew).below b1);have b4:=a9.lt;have a4:=I.o.key)
  | (go_at_call 102;refine(HW.o _ _ (by exact I.o.below ((Below.refl _ _).alloc lr _)) (by exact RdX.one (by have h5:=a9.rdAll;rw[V.o]at h5;exact h5) (by show w2.heap.size+1≠g;omega) rfl (by have h6:w2.heap.size+1<w3.heap.size:=b4;omega))).mono ?_;rintro e w4 ⟨rfl,D,b3⟩;have J:=qh D;have a8:=J.o.key;clear D))
 have Y:Hid (Below w.heap.size w w3):=a3.o.drew.trans (b1.mono a3.o.size);have b6:Hid (Below w.heap.size w w4):=Wrote.below b3 (Y.o.alloc Y.o.size _) a7 (Nat.le_trans Y.o.size sy);clear a4 a8 a1 a5 U
 go_wp2_with fail
 go_ret;refine⟨g,rfl,a7,?_,b6.o⟩;have:=J.o
 simpa using this
theorem zt4(g:Nat)(kk l:List UInt8)(w:World)(h:HashIn w g 191 (u8s kk) l)(a1:kk.length=64)(hl:l.length≤1000000000):
 Calls Tryz.prog 103 #[.pointer (some ⟨g,0,none⟩)] w fun e w'=>e=.returned (.agg (u8s (Sh.sha (Mc.mask kk 92++Sh.sha l))).toArray)∧Below w.heap.size w w':=by
 have a7:=qh (fun W (hin:HashIn W g 191 (u8s kk) l)=>zoj g 191 (u8s kk) l W hin om);have b4:Hid (∀W:World,Calls Tryz.prog 126 #[.agg (u8s kk).toArray,.int .u8 92] W fun e w'=>e=.returned (.slice (some ⟨W.heap.size+1,0,none⟩) 64 64)∧Blk w' (W.heap.size+1) 5 (u8s (Mc.mask kk 92))∧Below W.heap.size W w'):=fun W=>zi5 kk 92 W a1
 have c6:Hid ((u8s kk).length=64):=by show _=_;rw[zaa,a1]
 have a8:Hid ((Mc.mask kk 92).length=64):=by show _=_;rw[Mc.mask_len,a1]
 have d6:Hid ((Sh.sha l).length=32):=Sh.sha_len l;have c8:Hid ((Tryz.prog.info? 27).map (·.size)=some (u8s (Sh.sha l)).length):=by rw[zaa,Sh.sha_len];exact hd24
 have M:Hid ((u8s (Sh.sha l)).length=(u8s (List.replicate 32 0)).length):=by show _=_;rw[zaa,Sh.sha_len];rfl
 have D:Hid ((Tryz.prog.info? 27).map (·.size)=some (u8s (Sh.sha (Mc.mask kk 92++Sh.sha l))).length):=by rw[zaa,Sh.sha_len];exact hd24
 have b3:Hid (0+(u8s (Sh.sha (Mc.mask kk 92++Sh.sha l))).length≤(u8s (List.replicate 32 0)).length):=by rw[zaa,Sh.sha_len];exact Nat.le_refl 32
 have c3:Hid (splice (u8s (List.replicate 32 0)) 0 (u8s (Sh.sha (Mc.mask kk 92++Sh.sha l)))=u8s (Sh.sha (Mc.mask kk 92++Sh.sha l))):=zap _ _ (by rw[zaa,Sh.sha_len];rfl)
 have c5:Hid (∀W A1,RdB W A1 2 [Mc.mask kk 92,Sh.sha l]→Calls Tryz.prog 129 #[.slice A1 2 2] W fun e w'=>e=.returned (.agg (u8s (Sh.sha (Mc.mask kk 92++Sh.sha l))).toArray)∧Below W.heap.size W w'):=fun W A1 hr=>by
  have:=zqo A1 2 2 _ W hr om (by simp[a8.o,d6.o])
  simpa using this
 have b7:Hid (∀(W:World) (b1 b2 g:Nat),g=W.heap.size→Rd W (some ⟨b1,0,none⟩) 64 (u8s (Mc.mask kk 92))→Rd W (some ⟨b2,0,none⟩) 32 (u8s (Sh.sha l))→RdB (W.alloc (.cells #[.slice (some ⟨b1,0,none⟩) 64 64,.slice (some ⟨b2,0,none⟩) 32 32] 22)) (some ⟨g,0,none⟩) 2 [Mc.mask kk 92,Sh.sha l]):=fun W b1 b2 g hg h1 h2 =>
  RdB.of_blk (Blk.new' (cs:=[.slice (some ⟨b1,0,none⟩) 64 64,.slice (some ⟨b2,0,none⟩) 32 32]) hg rfl) ⟨.of_rd (h1.alloc _) lr,.of_rd (h2.alloc _) lr,trivial⟩
 obtain⟨S1,I⟩:=ex9 (u8s (Sh.sha l));obtain⟨S2,a4⟩:=ex9 (u8s (Sh.sha (Mc.mask kk 92++Sh.sha l)));have e0:Hid (∀v∈S1,v.oneCell'=true):=by rw[I];exact zac _
 have d8:Hid (∀v∈S2,v.oneCell'=true):=by rw[a4];exact zac _
 rw[←I]at a7 c8 M b7;rw[←a4]at D b3 c3 c5 ⊢;obtain⟨K,hK⟩:=ex9 (u8s kk);rw[←hK]at h a7 b4 c6;have c1:=qh h;have e8:=h.lt;have e6:=qh I;clear h I a4 hK
 go_enter Tryz.func103, Tryz.ntmps103
 go_wp2_with (first
  | (go_at_call 128;refine(a7.o _ (by exact c1.o.below ((Below.refl _ _).alloc lr _))).mono ?_;rintro e w1 ⟨rfl,E⟩;have Y:=qh ((c1.o.below ((Below.refl _ _).alloc lr _)).below E);have A:Hid (Below w.heap.size w w1):=((Below.refl _ _).alloc lr _).trans (E.mono sy);have a6:Hid (Blk w1 w.heap.size 27 (u8s (List.replicate 32 0))):=(Blk.new' rfl rfl:Blk _ w.heap.size _ _).below E sy;clear E)
  | (refine zab rfl 27 (.tmp 3) (.tmp 7) rfl w1.heap.size S1 rr rr 27 (u8s (List.replicate 32 0)) (by exact Blk.new' rfl rfl) c8.o e0.o M.o ?_;intro w2 c9 U))
 have a0:Hid (HashIn w2 g 191 K l):=by
  obtain⟨st,op,hb,hst⟩:=Y.o;exact⟨st,op,U.blk (hb.alloc _) (by have:=hb.lt;omega),hst⟩
 have J:Hid (Below w.heap.size w w2):=U.below (A.o.alloc A.o.size _) A.o.size (Nat.le_trans A.o.size sy);have a2:Hid (Blk w2 w.heap.size 27 (u8s (List.replicate 32 0))):=U.blk (a6.o.alloc _) (by have:=a6.o.lt;omega);have d7:Hid (Rd w2 (some ⟨w1.heap.size,0,none⟩) 32 S1):=by have h5:=c9.rd 0 32 (by rw[M.o];exact Nat.le_refl 32);rwa [List.drop_zero,tk (by rw[M.o];exact Nat.le_refl 32)]at h5
 have a9:=a0.o.key;have c7:w2.there w.heap.size 0 32:=a2.o.there 0 32 (by rw[zaa];exact Nat.le_refl 32);have d9:=Tryz.underlying187;have e3:(Tryz.prog.info? 187).map (·.size)=some K.length:=by rw[c6.o];exact hd145
 have e5:=D.o;have e4:S2.length=32:=by have:=D.o;rw[hd24]at this;injection this with this;exact this.symm
 have d5:=d8.o;clear c9 U Y A a6
 go_region_held3 (fun W'=>W'.rangeAt g 73 K∧W'.there w.heap.size 0 32) (first|assumption|exact⟨a9,c7⟩|exact⟨a5,d0⟩|exact⟨zd9 a5 _,(G.o.alloc _).there 0 32 (by rw[zaa];exact Nat.le_refl 32)⟩|exact⟨c4,c2⟩|exact⟨b5,b9⟩) (first
  | (go_at_call 126;(with_reducible refine(b4.o _).mono ?_);rintro e w3 ⟨rfl,d3,r⟩;have V:=qh ((a0.o.below (Below.refl _ _).drew).below r);have e7:=d3.lt;have a5:=V.o.key;have G:Hid (Blk w3 w.heap.size 27 (u8s (List.replicate 32 0))):=a2.o.drew.below r a2.o.lt;have d0:w3.there w.heap.size 0 32:=G.o.there 0 32 (by rw[zaa];exact Nat.le_refl 32);have e2:Hid (Rd w3 (some ⟨w2.heap.size+1,0,none⟩) 64 (u8s (Mc.mask kk 92))):=by { have h5:=d3.rdAll;rw[a8.o]at h5;exact h5 }
     have d4:Hid (Rd w3 (some ⟨w1.heap.size,0,none⟩) 32 S1):=d7.o.drew.below r)
  | (go_at_call 129;(with_reducible refine(c5.o _ _ (by exact b7.o _ _ _ _ rfl e2.o d4.o)).mono ?_);rintro e w4 ⟨rfl,a3⟩;have X:=qh ((V.o.below ((Below.refl _ _).alloc lr _)).below a3);have c4:=X.o.key;have b6:Hid (Blk w4 w.heap.size 27 (u8s (List.replicate 32 0))):=(G.o.alloc _).below a3 (by have:=G.o.lt;simp;omega);have c2:w4.there w.heap.size 0 32:=b6.o.there 0 32 (by rw[zaa];exact Nat.le_refl 32);have c0:Hid (Blk (w4.setCells w.heap.size 0 S2) w.heap.size 27 S2):=by { have h5:=za2 w.heap.size _ S2 0 _ _ b6.o b3.o;rw[c3.o]at h5;exact h5 }
     have b9:(w4.setCells w.heap.size 0 S2).there w.heap.size 0 32:=c0.o.there 0 32 om
     have b5:(w4.setCells w.heap.size 0 S2).rangeAt g 73 K:=by { obtain⟨st,op,hb,hst⟩:=X.o;exact HashIn.key (l:=l) ⟨st,op,(Only.of_setCells w4 w.heap.size 0 S2).blk hb om,hst⟩ }))
 have e1:Hid (Below w.heap.size w w4):=((J.o.drew.trans (r.mono J.o.size)).alloc (Nat.le_trans J.o.size r.size) _).trans (a3.mono (Nat.le_trans (Nat.le_trans J.o.size r.size) sy));clear a9 a5 c4 b5 c7 d0 c2 b9
 go_wp2_with fail
 exact bodyPost_ret (zan rfl _ w.heap.size _ S2 rfl c0.o _ Tryz.underlying27 rfl D.o) rfl ⟨rfl,zbq w.heap.size w.heap.size w S2 0 _ e1.o lr⟩
theorem zjl(A:Option Addr)(n c:Nat)(k:List UInt8)(A2:Option Addr)(n2 c2:Nat)(ls:List (List UInt8))(w:World)(h:Rd w A n (u8s k))(hc:n≤c)(hn:n≤1000000000)(h2:RdB w A2 n2 ls)(b3:n2≤1000000)(hl:ls.flatten.length≤100000000):
 Calls Tryz.prog 82 #[.slice A n c,.slice A2 n2 c2] w fun e w'=>e=.returned (.agg (u8s (Mc.tag k ls.flatten)).toArray)∧Below w.heap.size w w':=by
 have I:=Mc.key64_len k;have U:(Mc.mask (Mc.key64 k) 54).length=64:=by rw[Mc.mask_len,I]
 have b1:=qh (fun W (h:Rd W A n (u8s k))=>zj3 A n c k W h hc hn);have a7:=qh (fun W g (hin:HashIn W g 191 (u8s (Mc.key64 k)) (Mc.mask (Mc.key64 k) 54)) (hr:RdX W g A2 n2 ls)=>zgt g 191 _ _ A2 n2 c2 ls W hin hr b3 (by rw[U];omega));have Y:=qh (fun W g (hin:HashIn W g 191 (u8s (Mc.key64 k)) (Mc.mask (Mc.key64 k) 54++ls.flatten))=>zt4 g (Mc.key64 k) _ W hin I (by rw[la9,U];omega));have G:Hid ((Tryz.prog.info? 27).map (·.size)=some (u8s (Mc.tag k ls.flatten)).length):=by rw[zaa,Mc.tag_len];exact hd24
 have a2:Hid ((u8s (Mc.tag k ls.flatten)).length=(u8s (List.replicate 32 0)).length):=by show _=_;rw[zaa,Mc.tag_len];rfl
 have a5:Hid (∀v∈u8s (Mc.tag k ls.flatten),v.oneCell'=true):=zac _;have HX:Hid (∀W g,Below w.heap.size w W→w.heap.size≤g→RdX W g A2 n2 ls):=fun W g hW hg=>(RdX.of h2 hg).below hW
 have HR:=qh h;obtain⟨S2,M⟩:=ex9 (u8s (Mc.tag k ls.flatten));have a0:Hid (∀W g,HashIn W g 191 (u8s (Mc.key64 k)) (Mc.mask (Mc.key64 k) 54++ls.flatten)→Calls Tryz.prog 103 #[.pointer (some ⟨g,0,none⟩)] W fun e w'=>e=.returned (.agg S2.toArray)∧Below W.heap.size W w'):=fun W g hin=>by rw[M];exact Y.o W g hin
 rw[←M]at G a2 a5 ⊢;clear I U h h2 M Y
 go_enter Tryz.func82, Tryz.ntmps82
 go_wp2_with (first
  | (go_at_call 101;refine(b1.o _ (by exact HR.o.alloc _)).mono ?_;rintro e w1 ⟨g,rfl,hg,D,J⟩;have b6:w.heap.size<g:=by have h5:=hg;simp at h5;omega
     have b2:=qh D;have V:Hid (Below w.heap.size w w1):=((Below.refl _ _).alloc lr _).trans (J.mono sy);have b4:Hid (Blk w1 w.heap.size 27 (u8s (List.replicate 32 0))):=(Blk.new' rfl rfl:Blk _ w.heap.size _ _).below J sy
     clear D J hg)
  | (go_at_call 102;refine(a7.o _ g b2.o (HX.o _ g V.o om)).mono ?_;rintro e w2 ⟨rfl,r,E⟩;have a1:=qh r;have a6:Hid (Below w.heap.size w w2):=Wrote.below E V.o om V.o.size;have a4:Hid (Blk w2 w.heap.size 27 (u8s (List.replicate 32 0))):=Blk.wrote b4.o E om;clear r E)
  | (go_at_call 103;refine(a0.o _ g a1.o).mono ?_;rintro e w3 ⟨rfl,X⟩;have a3:Hid (Below w.heap.size w w3):=a6.o.trans (X.mono a6.o.size);have a9:Hid (Blk w3 w.heap.size 27 (u8s (List.replicate 32 0))):=a4.o.below X a4.o.lt;clear X)
  | (refine zab rfl 27 (.tmp 4) (.tmp 14) rfl w.heap.size S2 rr rr 27 _ a9.o G.o a5.o a2.o ?_;intro w8 b5 a8))
 exact bodyPost_ret (zan rfl _ w.heap.size _ S2 rfl b5 _ Tryz.underlying27 rfl G.o) rfl ⟨rfl,a8.below a3.o lr a3.o.size⟩
theorem zs8(t:List UInt8)(w:World)(ht:t.length=32):
 Calls Tryz.prog 81 #[.agg (u8s t).toArray] w fun e w'=>e=.returned (.slice (some ⟨w.heap.size+1,0,none⟩) 16 16)∧Blk w' (w.heap.size+1) 5 (u8s (t.take 16))∧Below w.heap.size w w':=by
 have HE:Hid (splice (u8s (List.replicate 16 0)) 0 ((u8s t).take 16)=u8s (t.take 16)):=by
  show _=_
  rw[zay];exact zap _ _ (by rw[zaa,zaa,List.length_take,ht];rfl)
 have HT:=qh ht;obtain⟨U,hU⟩:=ex9 (u8s t);have HU:=qh hU;have X:Hid (∀v∈U,v.oneCell'=true):=by rw[hU];exact zac _
 have A:Hid (U.length=32):=by rw[hU];show _=_;rw[zaa,ht]
 rw[←hU]at HE ⊢;clear hU ht
 go_enter Tryz.func81, Tryz.ntmps81
 go_wp2_with (first
  | (refine zaj rfl (.const (.int .i64 16)) (.const (.int .i64 16)) 22 rfl 5 (.int .u8 0) 1 Tryz.underlying22 iU8 rfl .i64 .i64 16 16 rr rr 16 16 rfl rfl lr om om ?_;intro w1 G r J;have I:Hid (Rd w1 (some ⟨w.heap.size,0,none⟩) 32 U):=by { have h5:=((Blk.new w 27 U).below (zad r) sy).rd 0 32 (by rw[A.o];exact Nat.le_refl 32);rw[List.drop_zero,tk (by rw[A.o];exact Nat.le_refl 32)]at h5;exact h5 }
     have D:Hid (Below w.heap.size w w1):=((Below.refl _ _).alloc lr _).trans ((zad r).mono sy);have V:Hid (Blk w1 (w.heap.size+1) 5 (u8s (List.replicate 16 0))):=by { have h5:=G;rw[show(w.alloc (.cells U.toArray 27)).heap.size=w.heap.size+1 by simp]at h5;exact h5 }
     clear G r J)
  | (refine zav rfl (.tmp 5) (.tmp 6) 22 rfl 5 Tryz.underlying22 zbk (w.heap.size+1) 0 16 16 rr (some ⟨w.heap.size,0,none⟩) 32 32 rr 5 (u8s (List.replicate 16 0)) V.o U I.o X.o (by rw[zaa];exact lr) ?_;intro w2 E Y;rw[HE.o]at E;have M:Hid (Below w.heap.size w w2):=Y.below D.o om D.o.size))
 go_ret;exact⟨rfl,E,M.o⟩
theorem zqx(A:Option Addr)(n c:Nat)(k:List UInt8)(A2:Option Addr)(n2 c2:Nat)(ls:List (List UInt8))(w:World)(h:Rd w A n (u8s k))(hc:n≤c)(hn:n≤1000000000)(h2:RdB w A2 n2 ls)(G:n2≤1000000)(hl:ls.flatten.length≤100000000):
 Calls Tryz.prog 50 #[.slice A n c,.slice A2 n2 c2] w fun e w'=>∃g,e=.returned (.slice (some ⟨g,0,none⟩) 16 16)∧w.heap.size≤g∧Blk w' g 5 (u8s ((Mc.tag k ls.flatten).take 16))∧Below w.heap.size w w':=by
 have HT:=qh (zjl A n c k A2 n2 c2 ls w h hc hn h2 G hl);have HF:=qh (fun W=>zs8 (Mc.tag k ls.flatten) W (Mc.tag_len _ _));clear h h2
 go_enter Tryz.func50, Tryz.ntmps50
 go_wp2_with (first
  | (go_at_call 82;refine HT.o.mono ?_;rintro e w1 ⟨rfl,r⟩)
  | (go_at_call 81;refine(HF.o _).mono ?_;rintro e w2 ⟨rfl,E,D⟩))
 go_ret;exact⟨_,rfl,by have:=r.size;omega,E,r.trans (D.mono r.size)⟩
theorem zm7(A:Option Addr)(n c:Nat)(k:List UInt8)(A2:Option Addr)(n2 c2:Nat)(l:List UInt8)(w:World)(h:Rd w A n (u8s k))(hc:n≤c)(hn:n≤1000000000)(h2:Rd w A2 n2 (u8s l))(a0:n2≤c2)(hl:n2≤100000000):
 Calls Tryz.prog 104 #[.slice A n c,.slice A2 n2 c2] w fun e w'=>e=.returned (.agg (u8s (Mc.tag k l)).toArray)∧Below w.heap.size w w':=by
 have U:l.length=n2:=h2.len
 have M:Hid (∀W A3,Rd W A n (u8s k)→RdB W A3 1 [l]→Calls Tryz.prog 82 #[.slice A n c,.slice A3 1 1] W fun e w'=>e=.returned (.agg (u8s (Mc.tag k l)).toArray)∧Below W.heap.size W w'):=fun W A3 h1 hr=>by
  have:=zjl A n c k A3 1 1 [l] W h1 hc hn hr om (by simp;omega)
  simpa using this
 have Y:Hid (∀(W:World) (g:Nat),g=W.heap.size→Rd W A2 n2 (u8s l)→RdB (W.alloc (.cells #[.slice A2 n2 c2] 22)) (some ⟨g,0,none⟩) 1 [l]):=fun W g hg hr=>RdB.of_blk (ls:=[l]) (Blk.new' (cs:=[.slice A2 n2 c2]) hg rfl) ⟨.of_rd (hr.alloc _) a0,trivial⟩
 have r:Hid ((Tryz.prog.info? 27).map (·.size)=some (u8s (Mc.tag k l)).length):=by rw[zaa,Mc.tag_len];exact hd24
 have E:Hid ((u8s (Mc.tag k l)).length=(u8s (List.replicate 32 0)).length):=by show _=_;rw[zaa,Mc.tag_len];rfl
 have G:Hid (∀v∈u8s (Mc.tag k l),v.oneCell'=true):=zac _;have HR:=qh h;have X:=qh h2;obtain⟨S2,I⟩:=ex9 (u8s (Mc.tag k l));rw[←I]at M r E G ⊢;clear U h h2 I
 go_enter Tryz.func104, Tryz.ntmps104
 go_wp2_with (first
  | (go_at_call 82;(with_reducible refine(M.o _ _ (by exact(HR.o.alloc _).alloc _) (by exact Y.o _ _ sy (X.o.alloc _))).mono ?_);rintro e w1 ⟨rfl,D⟩;have J:Hid (Below w.heap.size w w1):=(((Below.refl _ _).alloc lr _).alloc sy _).trans (D.mono (by simp;omega));have a1:Hid (Blk w1 w.heap.size 27 (u8s (List.replicate 32 0))):=((Blk.new' rfl rfl:Blk _ w.heap.size _ _).alloc _).below D (by simp;omega))
  | (refine zab rfl 27 (.tmp 4) (.tmp 8) rfl w.heap.size S2 rr rr 27 _ a1.o r.o G.o E.o ?_;intro w8 a2 V))
 exact bodyPost_ret (zan rfl _ w.heap.size _ S2 rfl a2 _ Tryz.underlying27 rfl r.o) rfl ⟨rfl,V.below J.o lr J.o.size⟩
section
theorem zpz{s b:List UInt32}{k:Nat}{x y:UInt32}(h1:s[k]? = some x)(h2:b[k]? = some y):Ch.final s b (k+1)=Ch.final s b k++Ch.leBytes (x+y):=by
 rw[Ch.final,gd9,gd9,h1,h2];rfl
attribute [local go_sem] zee zem
theorem zmx(z:UInt32):[Value.int .u8 (n32 z%256),.int .u8 (n32 z/256%256),.int .u8 (n32 z/65536%256),.int .u8 (n32 z/16777216%256)]=u8s (Ch.leBytes z):=by
 rw[b24,b16,b8,b0];rfl
theorem znb(A B:Option Addr)(c d:Nat)(M D:List UInt8)(G:UInt32)(w:World)(h:Rd w A 32 (u8s M))(h2:Rd w B 12 (u8s D)):
 Calls Tryz.prog 124 #[.slice A 32 c,.slice B 12 d,.int .u32 (n32 G)] w fun e w'=>∃A' c',e=.returned (.tuple #[.slice A' 64 c',.int .i64 0])∧64≤c'∧w'.ownsRow w.heap.size 5 1 (.slice A' 64 c') 64 (u8s (Ch.block M D G))∧Below w.heap.size w w':=by
 have b4:=qh (zm1 A B c d M D G w h h2);have J:=Ch.initial_len M D G;have b5:Hid (Ch.block M D G=Ch.final (Ch.rounds (Ch.initial M D G) 10) (Ch.initial M D G) 16):=rfl;obtain⟨s0,b9⟩:=ex9 (Ch.initial M D G);rw[←b9]at b4 J b5;have HI:Hid ((Tryz.prog.info? 232).map (·.size)=some (u32s s0).length):=by rw[za4,J];exact hd184
 have HL:Hid ((u32s s0).length=16):=by show _=_;rw[za4,J]
 have H1:Hid (∀v∈u32s s0,v.oneCell'=true):=zbc _;have b2:=qh J;obtain⟨U,hU⟩:=ex9 (u32s s0);rw[←hU]at b4 HI HL H1;have HU:=qh hU;clear h h2 b9 J hU
 go_enter Tryz.func124, Tryz.ntmps124
 go_wp2_with (first
  | (go_at_call 144;(with_reducible refine b4.o.mono ?_);rintro e w1 ⟨rfl,Y⟩)
  | (refine zab rfl 232 (.tmp 8) (.tmp 24) rfl w1.heap.size U rr rr 232 (row32 [] 16) (by exact Blk.new' rfl rfl) HI.o H1.o (by rw[HL.o];rfl) ?_;intro w2 a4 b3;have a7:w2.heap.size=w1.heap.size+1:=by rw[b3.size];simp
     have a9:=qh a7;have a1:Hid (Below w.heap.size w w2):=b3.below (Y.alloc Y.size _) Y.size (Nat.le_trans Y.size sy)
     clear a7 b3)
  | refine wpList_load_mid rfl 232 (.tmp 8) rfl w1.heap.size 0 rr U _ a4.range Tryz.underlying232 rfl HI.o ?_
  | (refine zab rfl 232 (.tmp 9) (.tmp 25) rfl w2.heap.size U rr rr 232 (row32 [] 16) (by exact Blk.new' rfl rfl) HI.o H1.o (by rw[HL.o];rfl) ?_;intro w3 c1 b7;have c4:Hid (Below w.heap.size w w3):=b7.below (a1.o.alloc a1.o.size _) a1.o.size (Nat.le_trans a1.o.size sy);have d0:Hid (Blk w3 w1.heap.size 232 U):=b7.blk (a4.alloc _) (by have:=a4.lt;omega)))
 have e5:=Y.size;have a6:w1.heap.size<w2.heap.size:=by have:=a9.o;omega
 have a8:Hid (Blk w3 w2.heap.size 232 (u32s (Ch.rounds s0 0))):=by show Blk _ _ _ (u32s s0);rw[←HU.o];exact c1
 clear Y a4 c1 b7 a9 a1;generalize w1.heap.size=g at *;generalize w2.heap.size=g2 at *
 go_loopg [26] 10 (fun k q wr=>∃i:Nat,i≤10∧k=10-i∧q=.int .i64 i∧Blk wr g2 232 (u32s (Ch.rounds s0 i))∧Blk wr g 232 U∧Below w.heap.size w wr)
 case atStart=>exact⟨0,by omega,rfl,rfl,a8.o,d0.o,c4.o⟩
 case round =>
  clear a8 d0 c4;obtain⟨i,hi,a2,rfl,hb,hf,hB⟩:=hrel;have a3:=qh a2;clear a2
  by_cases hlt:i<10
  · have X:(i:Int)<10:=om
    have I:(Ch.rounds s0 i).length=16:=by rw[Ch.rounds_len];exact b2.o
    have HE:Hid (Ch.rounds s0 (i+1)=Ch.double (Ch.rounds s0 i)):=rfl;obtain⟨r,hr⟩:=ex9 (Ch.rounds s0 i);rw[←hr]at I HE hb;clear hr;have HR:=qh I;have d7:=qh hb;have d6:=qh hf;have E:=qh hB;clear I hb hf hB
    go_wp2_with (first
     | (go_at_call 145;(with_reducible refine(zxm g2 _ _ _ K7.o (by rw[Ch.round_len,Ch.round_len,Ch.round_len,Ch.round_len,Ch.round_len,Ch.round_len,Ch.round_len];exact HR.o)).mono ?_);rintro e x8 ⟨rfl,k8,v8⟩;have K8:=qh k8;have V8:=qh (V7.o.wrote v8 om);have E8:=qh (Wrote.below v8 E7.o om E7.o.size);clear k8 v8)
     | (go_at_call 145;(with_reducible refine(zxn g2 _ _ _ K6.o (by rw[Ch.round_len,Ch.round_len,Ch.round_len,Ch.round_len,Ch.round_len,Ch.round_len];exact HR.o)).mono ?_);rintro e x7 ⟨rfl,k7,v7⟩;have K7:=qh k7;have V7:=qh (V6.o.wrote v7 om);have E7:=qh (Wrote.below v7 E6.o om E6.o.size);clear k7 v7)
     | (go_at_call 145;(with_reducible refine(zxo g2 _ _ _ K5.o (by rw[Ch.round_len,Ch.round_len,Ch.round_len,Ch.round_len,Ch.round_len];exact HR.o)).mono ?_);rintro e x6 ⟨rfl,k6,v6⟩;have K6:=qh k6;have V6:=qh (V5.o.wrote v6 om);have E6:=qh (Wrote.below v6 E5.o om E5.o.size);clear k6 v6)
     | (go_at_call 145;(with_reducible refine(zxp g2 _ _ _ K4.o (by rw[Ch.round_len,Ch.round_len,Ch.round_len,Ch.round_len];exact HR.o)).mono ?_);rintro e x5 ⟨rfl,k5,v5⟩;have K5:=qh k5;have V5:=qh (V4.o.wrote v5 om);have E5:=qh (Wrote.below v5 E4.o om E4.o.size);clear k5 v5)
     | (go_at_call 145;(with_reducible refine(zxq g2 _ _ _ K3.o (by rw[Ch.round_len,Ch.round_len,Ch.round_len];exact HR.o)).mono ?_);rintro e x4 ⟨rfl,k4,v4⟩;have K4:=qh k4;have V4:=qh (V3.o.wrote v4 om);have E4:=qh (Wrote.below v4 E3.o om E3.o.size);clear k4 v4)
     | (go_at_call 145;(with_reducible refine(zxr g2 _ _ _ K2.o (by rw[Ch.round_len,Ch.round_len];exact HR.o)).mono ?_);rintro e x3 ⟨rfl,k3,v3⟩;have K3:=qh k3;have V3:=qh (V2.o.wrote v3 om);have E3:=qh (Wrote.below v3 E2.o om E2.o.size);clear k3 v3)
     | (go_at_call 145;(with_reducible refine(zxs g2 _ _ _ K1.o (by rw[Ch.round_len];exact HR.o)).mono ?_);rintro e x2 ⟨rfl,k2,v2⟩;have K2:=qh k2;have V2:=qh (V1.o.wrote v2 om);have E2:=qh (Wrote.below v2 E1.o om E1.o.size);clear k2 v2)
     | (go_at_call 145;(with_reducible refine(zxt g2 _ r _ d7.o HR.o).mono ?_);rintro e x1 ⟨rfl,k1,v1⟩;have K1:=qh k1;have V1:=qh (d6.o.wrote v1 om);have E1:=qh (Wrote.below v1 E.o om E.o.size);clear k1 v1))
    go_roundg (10-(i+1))
    case measure=>have:=a3.o;omega
    case rel=>exact⟨i+1,by omega,rfl,by go_num,by rw[HE.o];exact K8.o,V8.o,E8.o⟩
  · obtain rfl:i=10:=om
    have X:¬((10:Nat):Int)<10:=om;clear a3 hlt hi;have I:(Ch.rounds s0 10).length=16:=by rw[Ch.rounds_len];exact b2.o
    obtain⟨r,hr⟩:=ex9 (Ch.rounds s0 10);rw[←hr]at I hb b5;clear hr;have d4:=qh I;have c3:Hid ((Tryz.prog.info? 232).map (·.size)=some (u32s r).length):=by rw[za4,I];exact hd184
    have c6:=qh (fun(W:World) (i:Nat) (x:UInt32) (hi:i<16) (hx:r[i]? = some x)=>zq3 (P:=Tryz.prog) (w:=W) 232 61 16 i (u32s r) (.int .u32 (n32 x)) Tryz.underlying232 szU32 agU32 hi (zbx hx));obtain⟨R,hR⟩:=ex9 (u32s r);rw[←hR]at hb c3 c6;have HB:=qh hb;have HF:=qh hf;have E:=qh hB;have hs:=hB.size;clear I hb hf hB hR
    go_wp2_with (first
     | (refine zaj rfl (.const (.int .i64 0)) (.const (.int .i64 64)) 22 rfl 5 (.int .u8 0) 1 Tryz.underlying22 iU8 rfl .i64 .i64 0 64 rr rr 0 64 rfl rfl om om om ?_;intro w4 d3 a5 d8;have c0:=qh (show w4.ownsRow (g2+1) 5 1 (.slice (some ⟨wr.heap.size,0,none⟩) 0 64) 0 (u8s []) from (by have h5:=zbg d3 HB.o.lt 0 64 1 om (by simp[zao]) om;simpa[u8s] using h5));have b6:Hid (Blk w4 g2 232 R):=HB.o.below (zad a5) HB.o.lt;have c5:Hid (Blk w4 g 232 U):=HF.o.below (zad a5) HF.o.lt;have c8:Hid (Below w.heap.size w w4):=E.o.trans ((zad a5).mono E.o.size);clear d3 a5 d8)
     | refine wpList_load_mid rfl 232 (.tmp 9) rfl g2 0 rr R _ b6.o.range Tryz.underlying232 rfl c3.o ?_)
    go_loopg [10,39] 16 (fun k v q wr=>∃i:Nat,i≤16∧k=16-i∧q=.int .i64 i∧(∃A' c',v=.slice A' (4*i) c'∧4*i≤c'∧wr.ownsRow (g2+1) 5 1 (.slice A' (4*i) c') (4*i) (u8s (Ch.final r s0 i)))∧g2<wr.heap.size∧Blk wr g 232 U∧Below w.heap.size w wr)
    case atStart=>exact⟨0,by omega,rfl,rfl,⟨_,_,rfl,by omega,c0.o⟩,b6.o.lt,c5.o,c8.o⟩
    case round =>
     clear HB HF E c0 b6 c5 c8 X;obtain⟨i,hi,a2,rfl,⟨A',c',rfl,d5,V⟩,e7,hf,hB⟩:=hrel;have a3:=qh a2;clear a2
     by_cases hlt:i<16
     · have X:(i:Int)<16:=om
       obtain⟨x,hx⟩:∃x,r[i]? = some x:=⟨_,ge9 (by rw[d4.o];exact hlt)⟩;obtain⟨y,hy⟩:∃y,s0[i]? = some y:=⟨_,ge9 (by rw[b2.o];exact hlt)⟩;have e3:=fun W=>c6.o W i x hlt hx
       have cy:wr.cell? ⟨g,i,none⟩=some (.int .u32 (n32 y)):=by rw[hf.cell,HU.o];exact zbx hy
       have e1:=qh (zpz hx hy);have HF:=qh hf;have E:=qh hB;have a0:=qh V;have e4:=hB.size
       have c7:Hid (RdS 1 (wr.alloc (.cells #[.int .u8 (n32 (x+y)%256),.int .u8 (n32 (x+y)/256%256),.int .u8 (n32 (x+y)/65536%256),.int .u8 (n32 (x+y)/16777216%256)] 5)) (some ⟨wr.heap.size,0,none⟩) 4 (u8s (Ch.leBytes (x+y)))):=by
        rw[←zmx];exact⟨rfl,fun _=>⟨wr.heap.size,0,rfl,by simp,fun j u hu=>by rw[(Blk.new wr _ _).cell,Nat.zero_add];exact hu⟩⟩
       clear hf hB V hx hy
       go_wp2_with (first
        | (at_builtin;refine zah rfl (.tmp 48) (.tmp 60) 22 rfl (g2+1) 5 1 1 Tryz.underlying22 eU8 (.slice A' (4*i) c') (4*i) (u8s (Ch.final r s0 i)) rr (by exact a0.o.alloc _) (some ⟨wr.heap.size,0,none⟩) 4 4 (u8s (Ch.leBytes (x+y))) rr (by exact c7.o) (zac _) om om (by simp;omega) ?_;intro A2 c2 w2 b1 e6 a6 e2))
       have e0:=qh ((HF.o.alloc (.cells #[.int .u8 (n32 (x+y)%256),.int .u8 (n32 (x+y)/256%256),.int .u8 (n32 (x+y)/65536%256),.int .u8 (n32 (x+y)/16777216%256)] 5)).grown a6 (fun e=>by have:=(a0.o.lt g e.symm).1;omega));have d9:=qh ((E.o.alloc E.o.size (.cells #[.int .u8 (n32 (x+y)%256),.int .u8 (n32 (x+y)/256%256),.int .u8 (n32 (x+y)/65536%256),.int .u8 (n32 (x+y)/16777216%256)] 5)).grown a6 (Nat.le_trans E.o.size sy) (fun k hk=>by have:=(a0.o.lt k hk).1;omega));have c9:g2<w2.heap.size:=by have:=a6.size;simp at this;omega
       go_roundg (16-(i+1))
       case measure=>have:=a3.o;omega
       case rel=>exact⟨i+1,by omega,rfl,by go_num,⟨A2,c2,rfl,by omega,by rw[e1.o,zae];exact b1⟩,c9,e0.o,d9.o⟩
     · obtain rfl:i=16:=om
       have X:¬((16:Nat):Int)<16:=om;have a0:=qh (zbi V (base':=w.heap.size) om);rw[←b5.o]at a0;clear V
       go_wp2_with fail
       go_ret2;exact⟨A',c',rfl,d5,a0.o,hB⟩
end
theorem zco{w:World}{base n c:Nat}{e:TypeId}{A:Option Addr}{xs:List Value}(h:w.ownsRow base e 1 (.slice A n c) n xs)(hn:0<n):∃g,A=some ⟨g,0,none⟩∧base≤g∧g<w.heap.size∧Rd w (some ⟨g,0,none⟩) n xs:=by
 have hr:=Rd.of_own h
 rcases h.2 with ⟨_,h0⟩|⟨g,D,r,hv,hb,hg,_⟩
 · omega
 · injection hv with hA
   subst hA;exact⟨g,rfl,hb,(Array.getElem?_eq_some_iff.1 hg).1,hr⟩
theorem zas{w w':World}{base n:Nat}{e:TypeId}{A:Nat}{v:Value}{xs:List Value}(h:w.ownsRow base e A v n xs)(hB:Below w.heap.size w w'):w'.ownsRow base e A v n xs:=by
 obtain⟨h1,h2⟩:=h;refine⟨h1,?_⟩
 rcases h2 with h2|⟨g,E,D,hv,hb,hg,r⟩
 · exact .inl h2
 · exact .inr ⟨g,E,D,hv,hb,(hB.block g (Array.getElem?_eq_some_iff.1 hg).1).trans hg,r⟩
theorem zix{w:World}{g o n:Nat}{l:List UInt8}(h:Rd w (some ⟨g,o,none⟩) n (u8s l))(f d:Nat)(hd:f+d≤n):Rd w (some ⟨g,o+f,none⟩) d (u8s ((l.drop f).take d)):=by
 have:=h.cut (A':=some ⟨g,o+f,none⟩) (m:=f+d) (k:=f) hd om (fun _ b off e=>by injection e with e;injection e with e1 e2;subst e1;subst e2;rfl);rw[zay,za9,show f+d-f=d by omega,List.drop_take,show f+d-f=d by omega]at this;exact this
theorem zli(k:Nat)(h:k<4294967296):n32 (UInt32.ofNat k)=(k:Int):=by unfold n32;rw[UInt32.toNat_ofNat'];omega
theorem zqa(A B:Option Addr)(c d:Nat)(D r:List UInt8)(k:Nat)(hk:k<4294967296)(w:World)(h:Rd w A 32 (u8s D))(h2:Rd w B 12 (u8s r)):
 Calls Tryz.prog 124 #[.slice A 32 c,.slice B 12 d,.int .u32 (k:Int)] w fun e w'=>∃g c',e=.returned (.tuple #[.slice (some ⟨g,0,none⟩) 64 c',.int .i64 0])∧64≤c'∧w.heap.size≤g∧Rd w' (some ⟨g,0,none⟩) 64 (u8s (Ch.block D r (UInt32.ofNat k)))∧Below w.heap.size w w':=by
 have:=znb A B c d D r (UInt32.ofNat k) w h h2;rw[zli k hk]at this;refine this.mono ?_;rintro e w' ⟨A',c',rfl,hc,E,hB⟩;obtain⟨g,rfl,hg,_,hr⟩:=zco E om;exact⟨g,c',rfl,hc,hg,hr,hB⟩
theorem zi1(r:List UInt8)(p j d:Nat)(h:(p+j)%64+d≤64):Ch.piece r p (j+d)=Ch.piece r p j++((Ch.block r (Ch.zeros 12) (UInt32.ofNat ((p+j)/64))).drop ((p+j)%64)).take d:=by
 rw[Ch.piece_add,Ch.piece_block _ _ _ h]
theorem zld(A:Option Addr)(c:Nat)(r:List UInt8)(p n:Nat)(w:World)(h:Rd w A 32 (u8s r))(hp:p≤1000000)(hn:n≤1000000):
 Calls Tryz.prog 99 #[.slice A 32 c,.int .i64 p,.int .i64 n] w fun e w'=>∃A' c',e=.returned (.slice A' n c')∧n≤c'∧w'.ownsRow w.heap.size 5 1 (.slice A' n c') n (u8s (Ch.piece r p n))∧Below w.heap.size w w':=by
 have HR:=qh h;clear h
 go_enter Tryz.func99, Tryz.ntmps99
 go_wp2_with (first
  | (refine zaj rfl (.const (.int .i64 12)) (.const (.int .i64 12)) 22 rfl 5 (.int .u8 0) 1 Tryz.underlying22 iU8 rfl .i64 .i64 12 12 rr rr 12 12 rfl rfl om om om ?_;intro w1 d0 c0 e1;have b3:Hid (Blk w1 w.heap.size 5 (u8s (Ch.zeros 12))):=d0;have a8:Hid (Below w.heap.size w w1):=zad c0;have a2:w.heap.size<w1.heap.size:=om;clear d0 c0 e1)
  | (refine zaj rfl (.const (.int .i64 0)) (.tmp 12) 22 rfl 5 (.int .u8 0) 1 Tryz.underlying22 iU8 rfl .i64 .i64 0 (n:Int) rr rr 0 n rfl rfl om om om ?_;intro w2 c5 b2 d6;have b9:=qh (show w2.ownsRow (w.heap.size+1) 5 1 (.slice (some ⟨w1.heap.size,0,none⟩) 0 n) 0 (u8s (Ch.piece r p 0)) from (by have h5:=zbg c5 a2 0 n 1 om (by simp[zao]) om;simpa[u8s,Ch.piece] using h5));have b6:Hid (Blk w2 w.heap.size 5 (u8s (Ch.zeros 12))):=b3.o.below (zad b2) b3.o.lt;have c2:Hid (Below w.heap.size w w2):=a8.o.trans ((zad b2).mono a8.o.size);clear c5 b2 d6))
 go_loopg [1,8] n (fun k qa v wr=>∃j m:Nat,j≤n∧k=n-j∧m=p+j∧qa=.int .i64 m∧(∃A' c',v=.slice A' j c'∧j≤c'∧wr.ownsRow (w.heap.size+1) 5 1 (.slice A' j c') j (u8s (Ch.piece r p j)))∧Blk wr w.heap.size 5 (u8s (Ch.zeros 12))∧Below w.heap.size w wr)
 case atStart=>exact⟨0,p,by omega,rfl,rfl,rfl,⟨_,_,rfl,by omega,b9.o⟩,b6.o,c2.o⟩
 case round =>
  clear b3 a8 b9 b6 c2 a2;obtain⟨j,m,hj,c8,b5,rfl,⟨A',c',rfl,d8,V⟩,hz,hB⟩:=hrel;have b7:=qh c8;have b1:=qh b5;have hm:m≤2000000:=om;clear c8 b5
  by_cases hlt:j<n
  · have c9:(j:Int)<(n:Int):=om
    obtain⟨f,hf⟩:=ex9 (m%64);have e4:f<64:=om;have e8:(m:Int)%64=(f:Int):=om;obtain⟨kk,b4⟩:=ex9 (m/64);have e7:(m:Int)/64=(kk:Int):=om;have a1:kk<4294967296:=om;have a4:Hid (∀W,Rd W A 32 (u8s r)→Rd W (some ⟨w.heap.size,0,none⟩) 12 (u8s (Ch.zeros 12))→Calls Tryz.prog 124 #[.slice A 32 c,.slice (some ⟨w.heap.size,0,none⟩) 12 12,.int .u32 (kk:Int)] W fun e w'=>∃g c',e=.returned (.tuple #[.slice (some ⟨g,0,none⟩) 64 c',.int .i64 0])∧64≤c'∧W.heap.size≤g∧Rd w' (some ⟨g,0,none⟩) 64 (u8s (Ch.block r (Ch.zeros 12) (UInt32.ofNat kk)))∧Below W.heap.size W w'):=fun W h1 h2=>zqa A _ c 12 r (Ch.zeros 12) kk a1 W h1 h2
    have a5:=Ch.block_len r (Ch.zeros 12) (UInt32.ofNat kk)
    have a6:Hid (∀d,f+d≤64→Ch.piece r p (j+d)=Ch.piece r p j++((Ch.block r (Ch.zeros 12) (UInt32.ofNat kk)).drop f).take d):=fun d hd=>by
     have:=b1.o;subst this;rw[hf,b4];exact zi1 r p j d om
    obtain⟨bl,d3⟩:=ex9 (Ch.block r (Ch.zeros 12) (UInt32.ofNat kk));rw[←d3]at a4 a6 a5;have e3:=qh a5;have HF:=qh hf;have HZ:=qh hz;have G:=qh hB;have I:=qh V;have c6:Hid (Rd wr (some ⟨w.heap.size,0,none⟩) 12 (u8s (Ch.zeros 12))):=by have h5:=hz.rdAll;exact h5
    have e5:=hB.size;clear d3 b4 a5 hf hz hB V a1;have e6:=HZ.o.lt
    by_cases hcut:n-j<64-f
    · have e2:((n:Int)-(j:Int)<((64-f:Nat):Int)):=om
      have d5:j+(n-j)=n:=om;have M:=qh (a6.o (n-j) om)
      go_wp2_with (first
       | (go_at_call 124;(with_reducible refine(a4.o _ (by exact HR.o.below G.o) (by exact c6.o)).mono ?_);rintro e w3 ⟨g,c3,rfl,e0,d7,Y,J⟩;have c7:¬c3=f:=om;have c1:(f:Int)≤(c3:Int):=om;have a7:Hid (Rd w3 (some ⟨g,f,none⟩) (n-j) (u8s ((bl.drop f).take (n-j)))):=(by have h5:=zix Y f (n-j) om;rw[Nat.zero_add]at h5;exact h5);have E:=qh J;have d4:=J.size;clear Y J)
       | (at_builtin;refine zah rfl (.tmp 44) (.tmp 45) 22 rfl (w.heap.size+1) 5 1 1 Tryz.underlying22 eU8 (.slice A' j c') j (u8s (Ch.piece r p j)) rr (by exact zas I.o E.o) (some ⟨g,f,none⟩) (n-j) (c3-f) (u8s ((bl.drop f).take (n-j))) rr (by exact a7.o.toS) (zac _) om om om ?_;intro A4 c4 w4 D d9 U X;have a0:=qh D;rw[←zae,←M.o]at a0;have a3:=qh (((HZ.o.below E.o HZ.o.lt).grown U (fun e=>by have:=(I.o.lt _ e.symm).1;omega)));have a9:=qh ((G.o.trans (E.o.mono G.o.size)).grown U (Nat.le_trans G.o.size E.o.size) (fun k hk=>by have:=(I.o.lt k hk).1;omega));clear D U X))
      go_roundg (n-(j+(n-j)))
      case measure=>have:=b7.o;omega
      case rel=>exact⟨j+(n-j),m+(n-j),by omega,rfl,by have:=b1.o;omega,by go_num,⟨A4,c4,by rw[d5],by omega,a0.o⟩,a3.o,a9.o⟩
    · have e2:¬((n:Int)-(j:Int)<((64-f:Nat):Int)):=om
      have M:=qh (a6.o (64-f) om)
      go_wp2_with (first
       | (go_at_call 124;(with_reducible refine(a4.o _ (by exact HR.o.below G.o) (by exact c6.o)).mono ?_);rintro e w3 ⟨g,c3,rfl,e0,d7,Y,J⟩;have c7:¬c3=f:=om;have c1:(f:Int)≤(c3:Int):=om;have a7:Hid (Rd w3 (some ⟨g,f,none⟩) (64-f) (u8s ((bl.drop f).take (64-f)))):=(by have h5:=zix Y f (64-f) om;rw[Nat.zero_add]at h5;exact h5);have E:=qh J;have d4:=J.size;clear Y J)
       | (at_builtin;refine zah rfl (.tmp 44) (.tmp 45) 22 rfl (w.heap.size+1) 5 1 1 Tryz.underlying22 eU8 (.slice A' j c') j (u8s (Ch.piece r p j)) rr (by exact zas I.o E.o) (some ⟨g,f,none⟩) (64-f) (c3-f) (u8s ((bl.drop f).take (64-f))) rr (by exact a7.o.toS) (zac _) om om om ?_;intro A4 c4 w4 D d9 U X;have a0:=qh D;rw[←zae,←M.o]at a0;have a3:=qh (((HZ.o.below E.o HZ.o.lt).grown U (fun e=>by have:=(I.o.lt _ e.symm).1;omega)));have a9:=qh ((G.o.trans (E.o.mono G.o.size)).grown U (Nat.le_trans G.o.size E.o.size) (fun k hk=>by have:=(I.o.lt k hk).1;omega));clear D U X))
      go_roundg (n-(j+(64-f)))
      case measure=>have:=b7.o;omega
      case rel=>exact⟨j+(64-f),m+(64-f),by omega,rfl,by have:=b1.o;omega,by go_num,⟨A4,c4,rfl,by omega,a0.o⟩,a3.o,a9.o⟩
  · obtain rfl:j=n:=om
    have c9:¬(j:Int)<(j:Int):=om;have I:=qh (zbi V (base':=w.heap.size) om);clear V
    go_wp2_with fail
    go_ret;exact⟨A',c',rfl,d8,I.o,hB⟩
theorem zig(A:Option Addr)(c:Nat)(D:List UInt8)(n:Nat)(w:World)(h:Rd w A 32 (u8s D))(hn:n≤65536):
 Calls Tryz.prog 77 #[.slice A 32 c,.int .i64 n] w fun e w'=>∃A' c',e=.returned (.tuple #[.slice A' n c',.int .i64 0])∧n≤c'∧w'.ownsRow w.heap.size 5 1 (.slice A' n c') n (u8s (Ch.piece D 0 n))∧Below w.heap.size w w':=by
 have HP:=qh (zld A c D 0 n w h om om);clear h;have E:¬(n:Int)<0:=om;have G:¬(65536:Int)<(n:Int):=om
 go_enter Tryz.func77, Tryz.ntmps77
 go_wp2_with (go_at_call 99;refine HP.o.mono ?_;rintro e w1 ⟨A',c',rfl,hc,r,hB⟩;have HO:=qh r;clear r)
 go_ret2;exact⟨A',c',rfl,hc,HO.o,hB⟩
section
theorem zhq(sz:Nat)(v:Value)(h:0<sz)(N:Nat):madeCells (List.replicate sz v).toArray N=(rep N v).toArray:=by
 unfold madeCells rep
 apply Array.ext'
 simp only[Array.toList_map,Array.toList_range,List.size_toArray,List.length_replicate]
 apply List.ext_getElem?
 intro i;rw[List.getElem?_map,List.getElem?_replicate]
 by_cases hi:i<N
 · have hm:i%sz<sz:=Nat.mod_lt _ h
   rw[List.getElem?_range hi,if_pos hi]
   simp[hm]
 · rw[if_neg hi,List.getElem?_eq_none (by simpa using hi)]
   rfl
section
variable{P:Program}{w:World}{ops:Array Oper}{rest:List Oper}{o:Oper}{a:Act}{K:Act→World→Prop}{Q:Exit→Act→World→Prop}
theorem zng(x y:Operand)(t:TypeId)(ho:o.op=.makeSlice t x y)(e:TypeId)(z:Value)(bytes sz:Nat)(z0:Value)(ht:P.underlying t=some (.slice e))(hi:(P.info? e).map (fun i=>(i.zero,i.size,i.bytes))=some (some z,sz,bytes))(hz:z.cells=(List.replicate sz z0).toArray)(A:0<sz)
 (kl kc:IntKind) (ln lc:Int) (hx:a.eval x=.int kl ln) (hy:a.eval y=.int kc lc) (n c:Nat) (hn:ln=n) (hc:lc=c) (hnc:n≤c) (hbytes:bytes*c≤281474976710656) (h63:c≤140737488355328)
 (h:∀w',Blk w' w.heap.size e (rep (c*sz) z0)→w.grownBy w' none→w'.heap.size=w.heap.size+1→K (a.put o.dst (.slice (some ⟨w.heap.size,0,none⟩) n c)) w'):o.wp P a w K Q:=by
 subst hn;subst hc
 cases hq:P.info? e with
 | none=>simp[hq]at hi
 | some i =>
  simp[hq]at hi
  obtain⟨D,E,r⟩:=hi;subst r
  have hr:=run_make (P:=P) w t e i z ht hq D kl kc n c om om (by
   have h:((i.bytes*c:Nat):Int)≤281474976710656:=om
   rwa [Int.natCast_mul]at h) om
  rw[E,hz,zhq _ _ A]at hr;simp only[Int.toNat_natCast]at hr;refine zck (v:=.slice (some ⟨w.heap.size,0,none⟩) n c) ?_ (h (w.alloc (.cells (rep (c*sz) z0).toArray e)) (Blk.new' rfl rfl) (World.grownBy_alloc w _ none) sy)
  unfold execOp
  simp only[ho,hx,hy,Sem.run_bind,hr,Sem.run_pure,Result.andThen_ok]
theorem zf2(r:o.guard=none)(x y:Operand)(t:TypeId)(ho:o.op=.makeSlice t x y)(e:TypeId)(z:Value)(bytes sz:Nat)(z0:Value)(ht:P.underlying t=some (.slice e))(hi:(P.info? e).map (fun i=>(i.zero,i.size,i.bytes))=some (some z,sz,bytes))(hz:z.cells=(List.replicate sz z0).toArray)(A:0<sz)
 (kl kc:IntKind) (ln lc:Int) (hx:a.eval x=.int kl ln) (hy:a.eval y=.int kc lc) (n c:Nat) (hn:ln=n) (hc:lc=c) (hnc:n≤c) (hbytes:bytes*c≤281474976710656) (h63:c≤140737488355328)
 (h:∀w',Blk w' w.heap.size e (rep (c*sz) z0)→w.grownBy w' none→w'.heap.size=w.heap.size+1→wpList P ops Q rest (a.put o.dst (.slice (some ⟨w.heap.size,0,none⟩) n c)) w'):wpList P ops Q (o :: rest) a w :=
 zb2 r fun _ hK=>zng x y t ho e z bytes sz z0 ht hi hz A kl kc ln lc hx hy n c hn hc hnc hbytes h63 fun w' h1 h2 h3=>hK _ _ (h w' h1 h2 h3)
end
theorem zjd(w:World)(T:ByteArray):∃(c:Nat) (w':World),(convert 9 22 (.string T)).run Tryz.prog w=.ok (.slice (some ⟨w.heap.size,0,none⟩) T.size c) w'∧T.size≤c∧Hid (Rd w' (some ⟨w.heap.size,0,none⟩) T.size (u8s T.data.toList))∧Hid (Below w.heap.size w w'):=by
 refine⟨_,_,Lib.run_convert_string_bytes w _ _ _ T Tryz.underlying9 Tryz.underlying22 Tryz.underlying5,grownCap_ge _ _ _ _,?_,Lib.bytesWorld_below _ _ _⟩;refine⟨by simp[u8s],fun h=>⟨w.heap.size,0,rfl,by rw[Lib.bytesWorld_size];omega,fun j u hu=>?_⟩⟩;rw[u8s_getElem?]at hu;rw[Option.map_eq_some_iff]at hu;obtain⟨x,hx,rfl⟩:=hu;have hj:j<T.size:=by have:=(gi9.1 hx).1;simpa using this
 rw[Nat.zero_add,Lib.bytesWorld_cell w _ T j hj];rw[gd9,hx]
 rfl
end
theorem zc5{w w':World}{base n g:Nat}{e:TypeId}{r:Nat}{v:Value}{xs:List Value}(h:w.ownsRow base e r v n xs)(ho:Only w w' g)(A:∀k,v.ownBlock=some k→k≠g):w'.ownsRow base e r v n xs:=by
 refine h.kept ho.grown ?_
 cases hv:v.ownBlock with
 | none=>exact .inl rfl
 | some k=>exact .inr (fun e=>A k hv (by injection e))
theorem SlB.nil(w:World):SlB w (.slice none 0 0) []:=⟨_,_,_,rfl,lr,Rd.nil _ _⟩
theorem zp2(A:Option Addr)(n c:Nat)(k:List UInt8)(A2:Option Addr)(n2 c2:Nat)(ls:List (List UInt8))(w:World)(h:Rd w A n (u8s k))(hc:n≤c)(hn:n≤1000000000)(h2:RdB w A2 n2 ls)(e0:n2≤1000000)(hl:ls.flatten.length≤10000000):
 Calls Tryz.prog 105 #[.slice A n c,.int .i64 32,.slice A2 n2 c2] w fun e w'=>∃g,e=.returned (.tuple #[.slice (some ⟨g,0,none⟩) 32 32,.int .i64 0])∧w.heap.size≤g∧Rd w' (some ⟨g,0,none⟩) 32 (u8s (Wd.expand k ls.flatten))∧Below w.heap.size w w':=by
 obtain⟨J,hJ⟩:∃J,ls.flatten=J:=⟨_,rfl⟩;obtain⟨L,hL⟩:∃L,J.length=L:=⟨_,rfl⟩;rw[hJ,hL]at hl;rw[hJ];have c7:=qh (zef A2 n2 c2 ls w h2 om J L hJ hL om)
 have a6:Hid (∀(W:World) A4 c4,Rd W A n (u8s k)→Rd W A4 L (u8s J)→L≤c4→Calls Tryz.prog 82 #[.slice A n c,.slice (some ⟨W.heap.size+1,0,none⟩) 3 3] ((W.alloc (.cells #[.int .u8 1] 5)).alloc (.cells #[.slice none 0 0,.slice A4 L c4,.slice (some ⟨W.heap.size,0,none⟩) 1 1] 22)) fun e w'=>e=.returned (.agg (u8s (Wd.expand k J)).toArray)∧Below (W.heap.size+2) ((W.alloc (.cells #[.int .u8 1] 5)).alloc (.cells #[.slice none 0 0,.slice A4 L c4,.slice (some ⟨W.heap.size,0,none⟩) 1 1] 22)) w'):=fun W A4 c4 h1 hr hcc=>by
  have Y:Blk (W.alloc (.cells #[.int .u8 1] 5)) W.heap.size 5 (u8s [1]):=Blk.new' rfl rfl;have c9:Blk ((W.alloc (.cells #[.int .u8 1] 5)).alloc (.cells #[.slice none 0 0,.slice A4 L c4,.slice (some ⟨W.heap.size,0,none⟩) 1 1] 22)) (W.heap.size+1) 22 [.slice none 0 0,.slice A4 L c4,.slice (some ⟨W.heap.size,0,none⟩) 1 1]:=Blk.new' sy rfl;have:=zjl A n c k (some ⟨W.heap.size+1,0,none⟩) 3 3 [[],J,[1]] _ ((h1.alloc _).alloc _) hc hn (RdB.of_blk (ls:=[[],J,[1]]) c9 ⟨SlB.nil _,.of_rd ((hr.alloc _).alloc _) hcc,.of_blk (Y.alloc _) 0 1 1 [1] (by simp[zaa]) om rfl,trivial⟩) om (by simp[hL];omega)
  simpa[Wd.expand] using this
 have E:Hid ((u8s (Wd.expand k J)).length=32):=by show _=_;rw[zaa,Wd.expand_len]
 have a8:Hid ((Wd.expand k J).length=32):=Wd.expand_len k J;have H1:Hid (∀v∈u8s (Wd.expand k J),v.oneCell'=true):=zac _;have a1:Hid ((Tryz.prog.info? 27).map (·.size)=some (u8s (Wd.expand k J)).length):=by rw[zaa,Wd.expand_len];exact hd24
 obtain⟨X,hX⟩:=ex9 (Wd.expand k J);rw[←hX]at a6 E H1 a1 a8 ⊢;obtain⟨U,hU⟩:=ex9 (u8s X);rw[←hU]at a6 E H1 a1;have HU:=qh hU;have HR:=qh h;clear h h2 hJ hL hX hU
 go_enter Tryz.func105, Tryz.ntmps105
 go_wp2_with (first
  | (go_at_call 36;(with_reducible refine c7.o.mono ?_);rintro e w1 ⟨A3,c3,rfl,d0,D,a7⟩;have b6:=qh (Rd.of_own D);have V:=qh a7;clear D a7)
  | (refine zaj rfl (.const (.int .i64 0)) (.tmp 22) 22 rfl 5 (.int .u8 0) 1 Tryz.underlying22 iU8 rfl .i64 .i64 0 64 rr rr 0 64 rfl rfl om om om ?_;intro w2 b3 a5 c0;have a9:=qh (show w2.ownsRow w.heap.size 5 1 (.slice (some ⟨w1.heap.size,0,none⟩) 0 64) 0 (u8s []) from (by have h5:=zbg b3 V.o.size 0 64 1 om (by simp[zao]) om;simpa[u8s] using h5));have b1:Hid (Rd w2 A3 L (u8s J)):=b6.o.below (zad a5);have b2:Hid (Below w.heap.size w w2):=V.o.trans ((zad a5).mono V.o.size);clear b3 a5 c0))
 go_loopg [9,10,11] 1 (fun kk v la q wr=>Below w.heap.size w wr∧((kk=1∧v=.slice (some ⟨w1.heap.size,0,none⟩) 0 64∧la=.slice none 0 0∧q=.int .i64 1∧Rd wr A3 L (u8s J)∧wr.ownsRow w.heap.size 5 1 (.slice (some ⟨w1.heap.size,0,none⟩) 0 64) 0 (u8s [])) ∨
   (kk=0∧q=.int .i64 2∧∃A' c',v=.slice A' 32 c'∧32≤c'∧wr.ownsRow w.heap.size 5 1 (.slice A' 32 c') 32 (u8s X))))
 case atStart=>exact⟨b2.o,.inl ⟨rfl,rfl,rfl,rfl,b1.o,a9.o⟩⟩
 case round =>
  clear b6 V a9 b1 b2;obtain⟨hB,⟨a4,rfl,rfl,rfl,hj,r⟩|⟨a4,rfl,A',c',rfl,d7,r⟩⟩:=hrel
  · have c8:=qh a4
    have d3:=qh hj;have d4:=qh r;have G:=qh hB;clear a4 hj r hB
    go_wp2_with (first
     | (go_at_call 82;(with_reducible refine(a6.o wr A3 c3 (HR.o.below G.o) d3.o d0).mono ?_);rintro e w3 ⟨rfl,a0⟩;have M:=qh (((G.o.alloc G.o.size _).alloc (Nat.le_trans G.o.size sy) _).trans (a0.mono (Nat.le_trans G.o.size om)));have b7:=qh (zas ((d4.o.alloc _).alloc _) (show Below ((wr.alloc (.cells #[.int .u8 1] 5)).alloc (.cells #[.slice none 0 0,.slice A3 L c3,.slice (some ⟨wr.heap.size,0,none⟩) 1 1] 22)).heap.size _ _ from (by simpa using a0)));clear a0)
     | (refine zab rfl 27 (.tmp 12) (.tmp 37) rfl w3.heap.size U rr rr 27 (u8s (List.replicate 32 0)) (by exact Blk.new' rfl rfl) a1.o H1.o (by rw[E.o];rfl) ?_;intro w4 Y a3;have a2:=qh (a3.below (M.o.alloc M.o.size _) M.o.size (Nat.le_trans M.o.size sy));have b4:=qh (zc5 (b7.o.alloc _) a3 (fun k hk=>by have h7:=(b7.o.lt k hk).2;omega));have c1:Hid (Rd w4 (some ⟨w3.heap.size,0,none⟩) 32 (u8s X)):=(by have h5:=Y;rw[HU.o]at h5;have h6:=h5.rdAll;rw[a8.o]at h6;exact h6);clear Y a3)
     | (at_builtin;refine zah rfl (.tmp 39) (.tmp 40) 22 rfl w.heap.size 5 1 1 Tryz.underlying22 eU8 (.slice (some ⟨w1.heap.size,0,none⟩) 0 64) 0 (u8s []) rr (by exact b4.o) (some ⟨w3.heap.size,0,none⟩) 32 32 (u8s X) rr (by exact c1.o.toS) (zac _) om om (by exact a2.o.size) ?_;intro A5 c5 w5 I d9 b9 b5;have c6:=qh I;have d5:=qh (a2.o.grown b9 a2.o.size (fun g hg=>(b4.o.lt g hg).1));clear I b9 b5))
    go_roundg 0
    case measure=>have:=c8.o;omega
    case rel=>exact⟨d5.o,.inr ⟨rfl,rfl,A5,c5,rfl,by omega,c6.o⟩⟩
  · obtain⟨g,rfl,hg,_,hr⟩:=zco r om
    have d6:=qh hr;clear r hr;have d8:(32:Int)≤(c':Int):=om
    go_wp2_with fail
    go_ret2;exact⟨g,rfl,hg,d6.o,hB⟩
theorem iA32:(Tryz.prog.info? 27).map (fun i=>(i.zero,i.size,i.bytes))=some (some (.agg (List.replicate 32 (.int .u8 0)).toArray),32,32):=by kernel_rfl
def keysOf(s:List UInt8)(ls:List ByteArray):List UInt8:=ls.flatMap fun l=>Wd.derive s l.data.toList
theorem zi8(s:List UInt8)(ls:List ByteArray):(keysOf s ls).length=ls.length*32:=by
 induction ls with
 | nil=>rfl
 | cons l ls ih=>rw[keysOf,List.flatMap_cons,la9,Wd.derive_len];rw[keysOf]at ih;rw[ih,List.length_cons];omega
theorem zm0(s:List UInt8)(ls:List ByteArray)(i:Nat)(l:ByteArray)(h:ls[i]? = some l):keysOf s (ls.take (i+1))=keysOf s (ls.take i)++Wd.derive s l.data.toList:=by
 unfold keysOf
 rw[List.take_add_one,h,List.flatMap_append]
 simp
def strs(ls:List ByteArray):List Value:=ls.map Value.string
theorem zhg(w:World)(t:TypeId)(cs:List Value)(fz:Nat × Nat):Rd (w.alloc (.cells cs.toArray t fz)) (some ⟨w.heap.size,0,none⟩) cs.length cs :=
 ⟨rfl,fun _=>⟨w.heap.size,0,rfl,by simp,fun j u hu=>by rw[cell_of_row _ w.heap.size (0+j) cs.toArray t fz (heap_alloc_new w _),Nat.zero_add];simpa using hu⟩⟩
theorem zdw{α:Type}(a b c d:List α)(h:c.length=b.length):splice (a++b++d) a.length c=a++c++d:=by
 unfold splice
 rw[as9 a b d,List.take_left,h,←la9,←as9 a b d,List.drop_left,as9]
theorem zmg{α:Type}(a b:Nat)(z:α):rep (a+b) z=rep a z++rep b z:=by unfold rep;rw[List.replicate_append_replicate]
theorem zhw(K D:List UInt8)(n i:Nat)(hK:K.length=i*32)(hD:D.length=32)(hi:i<n):splice (u8s K++rep ((n-i)*32) (.int .u8 0)) (i*32) ((u8s D).take 32)=u8s (K++D)++rep ((n-(i+1))*32) (.int .u8 0):=by
 rw[tk (by rw[zaa,hD];exact lr),show(n-i)*32=32+(n-(i+1))*32 by omega,zmg,←as9,zae];have:=zdw (u8s K) (rep 32 (.int .u8 0)) (u8s D) (rep ((n-(i+1))*32) (.int .u8 0)) (by rw[zaa,hD,zao]);rw[zaa,hK]at this;exact this
theorem zjc(A:Option Addr)(n c:Nat)(k:List UInt8)(A2:Option Addr)(n2 c2:Nat)(ls:List ByteArray)(w:World)(h:Rd w A n (u8s k))(hc:n≤c)(hn:n≤1000000)(h2:Rd w A2 n2 (strs ls))(f7:n2≤1000)(h0:0<n2)(hl:∀l∈ls,l.size≤1000):
 Calls Tryz.prog 84 #[.slice A n c,.slice A2 n2 c2] w fun e w'=>∃g,e=.returned (.slice (some ⟨g,0,none⟩) n2 n2)∧w.heap.size≤g∧Blk w' g 27 (u8s (keysOf k ls))∧Below w.heap.size w w':=by
 have c6:ls.length=n2:=by have:=h2.1;simpa[strs] using this
 have a2:=qh c6
 have b5:Hid (∀W A3 (l:ByteArray),l.size≤1000→Rd W A3 32 (u8s (Mc.tag Wd.salt k))→∀A4 c4,RdB W A4 1 [l.data.toList]→Calls Tryz.prog 105 #[.slice A3 32 32,.int .i64 32,.slice A4 1 c4] W fun e w'=>∃g,e=.returned (.tuple #[.slice (some ⟨g,0,none⟩) 32 32,.int .i64 0])∧W.heap.size≤g∧Rd w' (some ⟨g,0,none⟩) 32 (u8s (Wd.derive k l.data.toList))∧Below W.heap.size W w'):=fun W A3 l hsz h1 A4 c4 hr=>by
  have:=zp2 A3 32 32 (Mc.tag Wd.salt k) A4 1 c4 [l.data.toList] W h1 om om hr om (by simp;omega)
  simpa[Wd.derive] using this
 have c0:(Calls Tryz.prog 104 #[.slice (some ⟨w.heap.size,0,none⟩) 7 7,.slice A n c] (w.alloc (.cells #[.int .u8 115,.int .u8 104,.int .u8 97,.int .u8 108,.int .u8 108,.int .u8 111,.int .u8 116] 5 (7,8))) fun e w'=>e=.returned (.agg (u8s (Mc.tag Wd.salt k)).toArray)∧Below (w.heap.size+1) (w.alloc (.cells #[.int .u8 115,.int .u8 104,.int .u8 97,.int .u8 108,.int .u8 108,.int .u8 111,.int .u8 116] 5 (7,8))) w'):=by
  have:=zm7 (some ⟨w.heap.size,0,none⟩) 7 7 Wd.salt A n c k _ (zhg w 5 (u8s Wd.salt) (7,8)) om om (h.alloc _) hc om;have e7:(w.alloc (.cells (u8s Wd.salt).toArray 5 (7,8))).heap.size=w.heap.size+1:=by simp
  rw[e7]at this;exact this
 have a0:=qh c0;clear c0;have c3:Hid ((Mc.tag Wd.salt k).length=32):=Mc.tag_len _ _;have V:Hid ((Tryz.prog.info? 27).map (·.size)=some (u8s (Mc.tag Wd.salt k)).length):=by rw[zaa,Mc.tag_len];exact hd24
 have Y:Hid ((u8s (Mc.tag Wd.salt k)).length=(u8s (List.replicate 32 0)).length):=by show _=_;rw[zaa,Mc.tag_len];rfl
 have J:Hid (∀v∈u8s (Mc.tag Wd.salt k),v.oneCell'=true):=zac _;obtain⟨X,hX⟩:=ex9 (Mc.tag Wd.salt k);rw[←hX]at b5 a0 c3 V Y J;obtain⟨U,hU⟩:=ex9 (u8s X);rw[←hU]at a0 V Y J;have HU:=qh hU;have d9:=qh h2;have e3:=qh hl;have f2:((n2:Int) == 0)=false:=by rw[beq_eq_false_iff_ne];omega
 have kc:=fun(w:World) (C:Array Value) (n c:Nat)=>Lib.run_convert_bytes_const (P:=Tryz.prog) w 22 5 C n c Tryz.underlying22 Tryz.underlying5
 clear h h2 c6 hX hU hl
 go_enter Tryz.func84, Tryz.ntmps84
 go_wp2_with (first
  | (go_at_call 104;(with_reducible refine a0.o.mono ?_);rintro e w1 ⟨rfl,a3⟩;have r:=qh (((Below.refl _ w).alloc lr _).trans (a3.mono (Nat.le_succ _)));clear a3)
  | (refine zab rfl 27 (.tmp 5) (.tmp 17) rfl w1.heap.size U rr rr 27 (u8s (List.replicate 32 0)) (by exact Blk.new' rfl rfl) V.o J.o Y.o ?_;intro w2 a9 b1;have M:=qh (b1.below (r.o.alloc r.o.size _) r.o.size (Nat.le_trans r.o.size sy));have E:Hid (Blk w2 w1.heap.size 27 (u8s X)):=(by rw[←HU.o];exact a9);clear a9 b1)
  | (refine zf2 rfl (.tmp 19) (.tmp 19) 35 rfl 27 (.agg (List.replicate 32 (.int .u8 0)).toArray) 32 32 (.int .u8 0) Tryz.underlying35 iA32 rfl om .i64 .i64 (n2:Int) (n2:Int) rr rr n2 n2 rfl rfl om om om ?_;intro w3 b2 I d3;have c1:=qh (E.o.below (zad I) E.o.lt);have b4:=qh (M.o.trans ((zad I).mono M.o.size));have c7:Hid (Blk w3 w2.heap.size 27 (u8s (keysOf k (ls.take 0))++rep ((n2-0)*32) (.int .u8 0))):=b2;clear b2 I d3))
 have f1:w1.heap.size<w2.heap.size:=E.o.lt;have f8:w.heap.size≤w1.heap.size:=r.o.size;clear r M E kc;generalize w1.heap.size=ga at *;generalize w2.heap.size=gb at *
 go_loopg [23] n2 (fun kk q wr=>∃i:Nat,i≤n2∧kk=n2-i∧q=.int .i64 i∧Blk wr gb 27 (u8s (keysOf k (ls.take i))++rep ((n2-i)*32) (.int .u8 0))∧Blk wr ga 27 (u8s X)∧Below w.heap.size w wr)
 case atStart=>exact⟨0,by omega,rfl,rfl,c7.o,c1.o,b4.o⟩
 case round =>
  clear c7 c1 b4;obtain⟨i,hi,c8,rfl,hz,hk,hB⟩:=hrel;have d8:=qh c8;clear c8
  by_cases hlt:i<n2
  · have c9:(i:Int)<(n2:Int):=om
    obtain⟨l,hx⟩:∃l,ls[i]? = some l:=⟨_,ge9 (by rw[a2.o];exact hlt)⟩;have a4:l.size≤1000:=e3.o l (mg9 hx);have d7:=qh (zm0 k ls i l hx);obtain⟨b,f3,u,rfl,f5,HX,f9⟩:=(d9.o.below hB).at_ hlt;have hu:u=.string l:=by have:=HX.o;unfold strs at this;rw[List.getElem?_map,hx]at this;injection this with this;exact this.symm
    subst hu;obtain⟨c5,w5,f4,e5,e0,G⟩:=zjd wr l;have a1:=zi8 k (ls.take i);rw[List.length_take,a2.o,Nat.min_eq_left hi]at a1;have b7:=qh a1;have d0:Hid (∀W c4,Rd W (some ⟨ga,0,none⟩) 32 (u8s X)→RdB W (some ⟨w5.heap.size,0,none⟩) 1 [l.data.toList]→Calls Tryz.prog 105 #[.slice (some ⟨ga,0,none⟩) 32 32,.int .i64 32,.slice (some ⟨w5.heap.size,0,none⟩) 1 c4] W fun e w'=>∃g,e=.returned (.tuple #[.slice (some ⟨g,0,none⟩) 32 32,.int .i64 0])∧W.heap.size≤g∧Rd w' (some ⟨g,0,none⟩) 32 (u8s (Wd.derive k l.data.toList))∧Below W.heap.size W w'):=fun W c4 h1 h2=>b5.o W _ l a4 h1 _ c4 h2
    have HZ:=qh hz;have HK:=qh hk;have b6:=qh hB;have a6:=G.o.size;have d4:Hid (RdB (w5.alloc (.cells #[.slice (some ⟨wr.heap.size,0,none⟩) l.size c5] 22)) (some ⟨w5.heap.size,0,none⟩) 1 [l.data.toList]):=RdB.of_blk (ls:=[l.data.toList]) (Blk.new' (cs:=[.slice (some ⟨wr.heap.size,0,none⟩) l.size c5]) rfl rfl) ⟨.of_rd (e0.o.alloc _) e5,trivial⟩;have e8:Hid (Rd (w5.alloc (.cells #[.slice (some ⟨wr.heap.size,0,none⟩) l.size c5] 22)) (some ⟨ga,0,none⟩) 32 (u8s X)):=(by have h5:=(hk.below G.o hk.lt).rdAll;rw[c3.o]at h5;exact h5.alloc _);have e1:Hid ((Wd.derive k l.data.toList).length=32):=Wd.derive_len _ _;clear hx a1 hz hk hB a4
    go_wp2_with (first
     | (go_at_call 105;(with_reducible refine(d0.o _ _ e8.o d4.o).mono ?_);rintro e w6 ⟨g6,rfl,f6,a7,b3⟩;have d5:=qh a7;have D:=qh (((G.o.alloc a6 _)).trans (b3.mono (Nat.le_trans a6 sy)));have a5:=qh (b6.o.trans (D.o.mono b6.o.size));have e9:=qh (HZ.o.below D.o HZ.o.lt);have e6:=qh (HK.o.below D.o HK.o.lt);clear a7 b3)
     | (refine zav rfl (.tmp 39) (.tmp 40) 22 rfl 5 Tryz.underlying22 zbk gb (i*32) 32 32 rr (some ⟨g6,0,none⟩) 32 32 rr 27 _ e9.o _ d5.o (zac _) (by rw[la9,zaa,b7.o,zao];omega) ?_;intro w7 f0 a8))
    have d6:=qh (zhw _ _ n2 i b7.o e1.o hlt);have b9:=qh f0;rw[d6.o,←d7.o]at b9;have e4:=qh (a8.blk e6.o om);have e2:=qh (a8.below a5.o om a5.o.size);go_roundg (n2-(i+1))
    case measure=>have:=d8.o;omega
    case rel=>exact⟨i+1,by omega,rfl,by go_num,b9.o,e4.o,e2.o⟩
  · obtain rfl:i=n2:=om
    have c9:¬(i:Int)<(i:Int):=om;have HZ:=qh hz;rw[tk (by rw[a2.o];exact lr),Nat.sub_self,Nat.zero_mul,show rep 0 (Value.int .u8 0)=[] from rfl,List.append_nil]at HZ;clear hz
    go_wp2_with fail
    go_ret;exact⟨gb,rfl,by omega,HZ.o,hB⟩
