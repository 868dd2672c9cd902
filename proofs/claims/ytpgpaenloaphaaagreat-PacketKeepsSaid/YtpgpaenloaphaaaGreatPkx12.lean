/- Part of the proof. -/
import Derived.Lib.ConvBytes
import Derived.Lib.AtoiErrMem
import Derived.Lib.SlBytesConst
import Derived.Test.YtpgpaenloaphaaaGreatPkx09
import Derived.Test.YtpgpaenloaphaaaGreatPkx10
set_option maxRecDepth 100000
set_option maxHeartbeats 0
namespace Go.Proofs.YtpgpaenloaphaaaGreat
open Go.RowKit
theorem hd145:(Tryz.prog.info? 238).map (·.size)=some 64:=by kernel_rfl
theorem zed(s:List UInt8)(h:s.length≤64):splice (u8s (List.replicate 64 0)) 0 ((u8s s).take 64)=u8s (Mc.padded s):=by
 rw[tk (by rw[zaa];exact h)]
 unfold splice Mc.padded
 rw[List.take_zero,List.nil_append,Nat.zero_add,zaa,zbd,zad,List.drop_replicate]
theorem zmk(A:Option Addr)(n c:Nat)(k:List UInt8)(w:World)(h:Rd w A n (u8s k))(hn:n≤64):
 Calls Tryz.prog 174 #[.slice A n c] w fun e w'=>e=.returned (.agg (u8s (Mc.key64 k)).toArray)∧Below w.heap.size w w':=by
 have hkl:k.length=n:=h.len;have hK:Mc.key64 k=Mc.padded k:=by unfold Mc.key64;rw[if_neg om]
 have hl64:(Mc.padded k).length=64:=Mc.padded_len om;have HSP:=qh (zed k om);have HI:Hid ((Tryz.prog.info? 238).map (·.size)=some (u8s (Mc.padded k)).length):=by rw[zaa,hl64];exact hd145
 have HL:Hid ((u8s (Mc.padded k)).length=(u8s (List.replicate 64 0)).length):=by show _=_;rw[zaa,hl64];rfl
 have H1:Hid (∀v∈u8s (Mc.padded k),v.oneCell'=true):=zac _;obtain⟨U,hU⟩:=ex9 (u8s (Mc.padded k));rw[←hU]at HI HL H1 HSP;have HU:Hid (U=u8s (Mc.key64 k)):=by rw[hK];exact hU
 have HR:=qh h;have e64:¬(64:Int)<(n:Int):=om;clear hkl hK hl64 hU h
 go_enter Tryz.func174, Tryz.ntmps174
 go_wp2_with (first
  | (refine za6 rfl (.tmp 14) (.tmp 15) 22 rfl 5 Tryz.underlying22 zbv (w.heap.size+1) 0 64 64 rr A n c rr 238 (u8s (List.replicate 64 0)) (by exact Blk.new' sy rfl) (u8s k) (by exact(HR.out.alloc _).alloc _) (zac _) (by rw[zaa];exact lr) ?_;intro w1 hb1 ho1;rw[HSP.out]at hb1;have HB1:Hid (Below w.heap.size w w1):=ho1.below (((Below.refl _ _).alloc lr _).alloc sy _) om (by simp;omega);have HZ1:Hid (Blk w1 w.heap.size 238 (u8s (List.replicate 64 0))):=ho1.blk ((Blk.new' rfl rfl).alloc _) om)
  | refine wpList_load_mid rfl 238 (.tmp 3) rfl (w.heap.size+1) 0 rr U _ hb1.range Tryz.underlying238 rfl HI.out ?_
  | (refine zab rfl 238 (.tmp 2) (.tmp 17) rfl w.heap.size U rr rr 238 _ HZ1.out HI.out H1.out HL.out ?_;intro w8 hb8 ho8))
 exact bodyPost_ret (zam rfl _ w.heap.size _ U rfl hb8 _ Tryz.underlying238 rfl HI.out) rfl ⟨by rw[HU.out],ho8.below HB1.out lr HB1.out.size⟩
theorem zr9(A:Option Addr)(n c:Nat)(k:List UInt8)(w:World)(h:Rd w A n (u8s k))(hc:n≤c)(hn:64<n)(hn2:n≤1000000000):
 Calls Tryz.prog 174 #[.slice A n c] w fun e w'=>e=.returned (.agg (u8s (Mc.key64 k)).toArray)∧Below w.heap.size w w':=by
 have hkl:k.length=n:=h.len;have hK:Mc.key64 k=Mc.padded (Sh.sha k):=by unfold Mc.key64;rw[if_pos om]
 have hsl:=Sh.sha_len k;have hl64:(Mc.padded (Sh.sha k)).length=64:=Mc.padded_len om;have HSP:=qh (zed (Sh.sha k) om);have HI:Hid ((Tryz.prog.info? 238).map (·.size)=some (u8s (Mc.padded (Sh.sha k))).length):=by rw[zaa,hl64];exact hd145
 have HL:Hid ((u8s (Mc.padded (Sh.sha k))).length=(u8s (List.replicate 64 0)).length):=by show _=_;rw[zaa,hl64];rfl
 have H1:Hid (∀v∈u8s (Mc.padded (Sh.sha k)),v.oneCell'=true):=zac _;obtain⟨U,hU⟩:=ex9 (u8s (Mc.padded (Sh.sha k)));rw[←hU]at HI HL H1 HSP;have HU:Hid (U=u8s (Mc.key64 k)):=by rw[hK];exact hU
 have HI2:Hid ((Tryz.prog.info? 23).map (·.size)=some (u8s (Sh.sha k)).length):=by rw[zaa,hsl];exact hd24
 have HL2:Hid ((u8s (Sh.sha k)).length=(u8s (List.replicate 32 0)).length):=by show _=_;rw[zaa,hsl];rfl
 have HS:=qh hsl;have HR:=qh h
 have HSU:Hid (∀W A1 c1,RdB W A1 1 [k]→Calls Tryz.prog 178 #[.slice A1 1 c1] W fun e w'=>e=.returned (.agg (u8s (Sh.sha k)).toArray)∧Below W.heap.size W w'):=fun W A1 c1 hr=>by
  have:=zpl A1 1 c1 [k] W hr om (by simp;omega)
  simpa using this
 have HRB:Hid (∀(W:World) (g:Nat),g=W.heap.size→Rd W A n (u8s k)→RdB (W.alloc (.cells #[.slice A n c] 22)) (some ⟨g,0,none⟩) 1 [k]):=fun W g hg hr=>RdB.of_blk (ls:=[k]) (Blk.new' (cs:=[.slice A n c]) hg rfl) ⟨.of_rd (hr.alloc _) hc,trivial⟩
 have e64:(64:Int)<(n:Int):=om;clear hkl hK hl64 hU h hsl
 go_enter Tryz.func174, Tryz.ntmps174
 go_wp2_with (first
  | (go_at_call 178;(with_reducible refine(HSU.out _ _ _ (by exact HRB.out _ _ sy ((HR.out.alloc _).alloc _))).mono ?_);rintro e w1 ⟨rfl,hB1⟩;have hs1:w.heap.size+2<w1.heap.size+1:=by have:=hB1.size;simp at this;omega
     have HB1:Hid (Below w.heap.size w w1):=((((Below.refl _ _).alloc lr _).alloc sy _).alloc (by simp;omega) _).trans (hB1.mono (by simp;omega));have HZ1:Hid (Blk w1 w.heap.size 238 (u8s (List.replicate 64 0))):=(((Blk.new' rfl rfl).alloc _).alloc _).below hB1 (by simp;omega);have HY1:Hid (Blk w1 (w.heap.size+1) 238 (u8s (List.replicate 64 0))):=((Blk.new' sy rfl:Blk _ (w.heap.size+1) _ _).alloc _).below hB1 sy
     clear hB1)
  | (refine zab rfl 23 (.tmp 4) (.tmp 10) rfl w1.heap.size (u8s (Sh.sha k)) rr rr 23 (u8s (List.replicate 32 0)) (by exact Blk.new' rfl rfl) HI2.out (zac _) HL2.out ?_;intro w2 hb2 ho2;have HB2:Hid (Below w.heap.size w w2):=ho2.below (HB1.out.alloc HB1.out.size _) HB1.out.size (Nat.le_trans HB1.out.size sy);have HZ2:Hid (Blk w2 w.heap.size 238 (u8s (List.replicate 64 0))):=ho2.blk (HZ1.out.alloc _) om;have HY2:Hid (Blk w2 (w.heap.size+1) 238 (u8s (List.replicate 64 0))):=ho2.blk (HY1.out.alloc _) om;have HX2:Hid (Rd w2.drew (some ⟨w1.heap.size,0,none⟩) 32 (u8s (Sh.sha k))):=by { have h5:=hb2.rdAll;rw[HS.out]at h5;exact h5.drew }
     clear hb2 ho2))
 go_region_held3 (fun _=>True) (trivial) ((refine zdo rfl (.tmp 11) (.tmp 12) 22 rfl 5 Tryz.underlying22 zbv (w.heap.size+1) 0 64 64 rr (some ⟨w1.heap.size,0,none⟩) 32 32 rr 238 (u8s (List.replicate 64 0)) (by exact HY2.out.drew) (u8s (Sh.sha k)) (by exact HX2.out) (zac _) (by rw[zaa];exact lr) ?_;intro w3 hb3 ho3))
 rw[HSP.out]at hb3;have HB3:Hid (Below w.heap.size w w3):=ho3.below HB2.out.drew om HB2.out.size;have HZ3:Hid (Blk w3 w.heap.size 238 (u8s (List.replicate 64 0))):=ho3.blk HZ2.out.drew om
 go_wp2_with (first
  | refine wpList_load_mid rfl 238 (.tmp 3) rfl (w.heap.size+1) 0 rr U _ hb3.range Tryz.underlying238 rfl HI.out ?_
  | (refine zab rfl 238 (.tmp 2) (.tmp 17) rfl w.heap.size U rr rr 238 _ HZ3.out HI.out H1.out HL.out ?_;intro w8 hb8 ho8))
 exact bodyPost_ret (zam rfl _ w.heap.size _ U rfl hb8 _ Tryz.underlying238 rfl HI.out) rfl ⟨by rw[HU.out],ho8.below HB3.out lr HB3.out.size⟩
theorem zsa(A:Option Addr)(n c:Nat)(k:List UInt8)(w:World)(h:Rd w A n (u8s k))(hc:n≤c)(hn2:n≤1000000000):
 Calls Tryz.prog 174 #[.slice A n c] w fun e w'=>e=.returned (.agg (u8s (Mc.key64 k)).toArray)∧Below w.heap.size w w':=by
 rcases Nat.lt_or_ge 64 n with h1|h1
 · exact zr9 A n c k w h hc h1 hn2
 · exact zmk A n c k w h h1
theorem zpx{P:Program}{w:World}(t e:TypeId)(n i:Nat)(us:List Value)(x:Value)(h:P.underlying t=some (.array n e))(hs:∀w,(sizeOf e).run P w=.ok 1 w)(hg:∀w,(isAgg e).run P w=.ok false w)(hi:i<n)(hx:us[i]? = some x):(Instr.index t (.agg us.toArray) (.int .i64 i)).run P w=.ok x w:=by
 have h1:(0:Int)≤(i:Int)∧(i:Int)<(n:Int):=om;simp only[Instr.index,asIntOf,Sem.run_bind,Sem.run_pure,Result.andThen_ok,run_underlying h,h1,and_self,if_true,hs,Nat.mul_one,Int.toNat_natCast]
 unfold part
 have h2:us.toArray[i]? = some x:=by simpa using hx
 simp only[Sem.run_bind,hg,Result.andThen_ok,Bool.false_eq_true,if_false,h2,Sem.run_pure]
theorem szU8(w:World):(sizeOf 5).run Tryz.prog w=.ok 1 w:=by kernel_rfl
theorem agU8(w:World):(isAgg 5).run Tryz.prog w=.ok false w:=by kernel_rfl
theorem zri(k:List UInt8)(m x:UInt8)(i:Nat)(hx:k[i]? = some x):(u8s (Mc.mask (k.take i) m++List.replicate (k.length-i) 0)).set i (.int .u8 (x ^^^ m).toNat)=u8s (Mc.mask (k.take (i+1)) m++List.replicate (k.length-(i+1)) 0):=by
 have hi:=(gi9.1 hx).1;obtain⟨r,hr⟩:∃r,k.length-i=r+1:=⟨k.length-i-1,by omega⟩;have hl:(Mc.mask (k.take i) m).length=i:=by rw[Mc.mask_len,List.length_take];omega
 rw[hr,show k.length-(i+1)=r by omega,List.take_add_one,hx]
 unfold Mc.mask at *
 rw[List.map_append,zad,zad,zad,List.set_append_right _ _ (by rw[zaa];omega),zaa,hl,Nat.sub_self,List.replicate_succ]
 simp[u8s,u8]
theorem ziw(k:List UInt8)(m:UInt8)(w:World)(hk:k.length=64):
 Calls Tryz.prog 175 #[.agg (u8s k).toArray,.int .u8 m.toNat] w fun e w'=>e=.returned (.slice (some ⟨w.heap.size+1,0,none⟩) 64 64)∧Blk w' (w.heap.size+1) 5 (u8s (Mc.mask k m))∧Below w.heap.size w w':=by
 have HI:Hid ((Tryz.prog.info? 238).map (·.size)=some (u8s k).length):=by rw[zaa,hk];exact hd145
 have HK:=qh hk;have HIX:=qh (fun(W:World) (i:Nat) (x:UInt8) (hi:i<64) (hx:k[i]? = some x)=>zpx (P:=Tryz.prog) (w:=W) 238 5 64 i (u8s k) (.int .u8 x.toNat) Tryz.underlying238 szU8 agU8 hi (by rw[u8s_getElem?,hx];rfl));obtain⟨U,hU⟩:=ex9 (u8s k);rw[←hU]at HI HIX ⊢;clear hk hU
 go_enter Tryz.func175, Tryz.ntmps175
 go_wp2_with (first
  | (refine zak rfl (.const (.int .i64 64)) (.const (.int .i64 64)) 22 rfl 5 (.int .u8 0) 1 Tryz.underlying22 iU8 rfl .i64 .i64 64 64 rr rr 64 64 rfl rfl lr om om ?_;intro w1 hb1 hg1 hs1;have HR1:Hid (w1.rangeAt w.heap.size 0 U):=((Blk.new w 238 U).below (zae hg1) sy).range;have HB1:Hid (Below w.heap.size w w1):=((Below.refl _ _).alloc lr _).trans ((zae hg1).mono sy);have HZ1:Hid (Blk w1 (w.heap.size+1) 5 (u8s (Mc.mask (k.take 0) m++List.replicate (k.length-0) 0))):=by { rw[HK.out];have h5:=hb1;rw[show(w.alloc (.cells U.toArray 238)).heap.size=w.heap.size+1 by simp]at h5;exact h5 }
     clear hb1 hg1 hs1)
  | (refine wpList_load_mid rfl 238 (.tmp 2) rfl w.heap.size 0 rr U _ HR1.out Tryz.underlying238 rfl HI.out ?_))
 go_loopg [10] 64 (fun kk q wr=>∃i:Nat,i≤64∧kk=64-i∧q=.int .i64 i∧Blk wr (w.heap.size+1) 5 (u8s (Mc.mask (k.take i) m++List.replicate (k.length-i) 0))∧Below w.heap.size w wr)
 case atStart=>exact⟨0,by omega,rfl,rfl,HZ1.out,HB1.out⟩
 case round =>
  obtain⟨i,hi,hgk,rfl,hb,hB⟩:=hrel;have HGK:=qh hgk;clear hgk
  by_cases hlt:i<64
  · obtain⟨x,hx⟩:∃x,k[i]? = some x:=⟨_,ge9 (by rw[HK.out];exact hlt)⟩
    have hidx:=fun W=>HIX.out W i x hlt hx
    have HS:=qh (zri k m x i hx);have hol:(Mc.mask (k.take i) m++List.replicate (k.length-i) 0).length=64:=by rw[la9,Mc.mask_len,List.length_take,lp9,HK.out];omega
    obtain⟨O,hO⟩:=ex9 (Mc.mask (k.take i) m++List.replicate (k.length-i) 0);rw[←hO]at hb HS hol;obtain⟨y,hy⟩:∃y,O[i]? = some y:=⟨_,ge9 om⟩;have q0:wr.cell? ⟨w.heap.size+1,i,none⟩=some (.int .u8 y.toNat):=by rw[hb.cell,u8s_getElem?,hy];rfl
    have f0:=hb.frozen i;have HXR:=qh (zfv x m);clear hx hO hy hol
    go_wp2_with fail
    rw[HXR.out];have hb7:=qh (hb.set_ i (.int .u8 (x ^^^ m).toNat));rw[HS.out]at hb7;have hB7:=qh (hB.setCell (p:=⟨w.heap.size+1,i,none⟩) (Nat.le_succ _) (.int .u8 (x ^^^ m).toNat));go_roundg (64-(i+1))
    case measure=>have:=HGK.out;omega
    case rel=>exact⟨i+1,by omega,rfl,by go_num,hb7.out,hB7.out⟩
  · obtain rfl:i=64:=om
    have hE:Mc.mask (k.take 64) m++List.replicate (k.length-64) 0=Mc.mask k m:=by rw[HK.out,tk (by rw[HK.out];exact lr)];simp
    rw[hE]at hb;clear hE
    go_wp2_with fail
    go_ret;exact⟨rfl,hb,hB⟩
def tCells(K:List Value):List Value:=hCells [0,0,0,0,0,0,0,0] (List.replicate 64 0) 0 K
theorem zc149:Tryz.zeroCells242 = (tCells (u8s (List.replicate 64 0))).toArray:=by kernel_rfl
theorem zn4(K:List Value)(h:K.length=64):(tCells K).length=137:=by unfold tCells;rw[zb4 rfl sy,h]
def places149:Array (Nat × Nat):=#[(0,73),(73,64)]
theorem pl149(fields:Array Field)(h:Tryz.prog.underlying 242 = some (.struct fields))(w:World):(fields.mapM (fun f=>do pure (f.offset,←sizeOf f.type)):Sem (Array (Nat × Nat))).run Tryz.prog w=.ok places149 w:=by
 rw[Tryz.underlying242]at h
 injection h with h
 injection h with h
 subst h
 kernel_rfl
theorem zjc(K:List Value)(hK:K.length=64):splice (tCells (u8s (List.replicate 64 0))) 73 K=tCells K:=by
 have e:∀L,tCells L=tCells []++L:=fun L=>by unfold tCells hCells;simp
 have h73:(tCells []).length=73:=rfl;rw[e (u8s _),e K]
 unfold splice
 rw[List.take_append_of_le_length om,tk om,List.drop_of_length_le (by rw[la9,h73,zaa,hK];simp),List.append_nil]
theorem build149(K:List Value)(hK:K.length=64)(w:World):(Instr.build 242 #[(1,.agg K.toArray)]).run Tryz.prog w=.ok (.agg (tCells K).toArray) w:=by
 refine zce Tryz.zeroValue242 Tryz.underlying242 (pl149 _ Tryz.underlying242) ?_ w;rw[zc149]
 show Instr.fill _ _ [(1,_)]=_
 rw[za5 (cs:=K) rfl (by rw[hK];rfl) (by rw[hK,zn4 _ (by simp[zaa])];omega),zjc K hK]
 rfl
theorem zn5(st:List UInt32)(op:List UInt8)(n:Nat)(K:List Value)(h1:st.length=8)(h2:op.length=64):((hCells st op n K).drop 73).take K.length=K:=by
 have e:hCells st op n K=hCells st op n []++K:=by unfold hCells;simp
 have h73:(hCells st op n []).length=73:=by rw[zb4 h1 h2];rfl
 rw[e,List.drop_append_of_le_length om,List.drop_of_length_le om,List.nil_append,List.take_length]
theorem HashIn.key{w:World}{g:Nat}{T:TypeId}{K:List Value}{l:List UInt8}(h:HashIn w g T K l):w.rangeAt g 73 K:=by
 obtain⟨st,op,hb,hst⟩:=h;refine hb.mid 73 K fun j v hv=>?_
 have e:=zn5 st op l.length K hst.len hst.olen;rw[←e,List.getElem?_take]at hv
 split at hv
 · simpa using hv
 · cases hv
theorem RdX.one{W:World}{g b gp n:Nat}{T:TypeId}{M:List UInt8}(hr:Rd W (some ⟨b,0,none⟩) n (u8s M))(hbg:b≠g)(hgp:gp=W.heap.size)(hg:g<W.heap.size):RdX (W.alloc (.cells #[.slice (some ⟨b,0,none⟩) n n] T)) g (some ⟨gp,0,none⟩) 1 [M]:=by
 refine⟨[.slice (some ⟨b,0,none⟩) n n],?_,fun _ ad e=>by injection e with e;subst e;show gp≠g;omega,rfl,fun i v hi=>?_⟩
 · have:=(Blk.new' (cs:=[.slice (some ⟨b,0,none⟩) n n]) (t:=T) hgp rfl).rd 0 1 sy
   simpa using this
 · cases i with
   | zero=>simp at hi;subst hi;exact⟨M,rfl,_,_,_,rfl,lr,hr.alloc _,fun _ ad e=>by injection e with e;subst e;exact hbg⟩
   | succ i=>simp at hi
theorem zjt(A:Option Addr)(n c:Nat)(k:List UInt8)(w:World)(h:Rd w A n (u8s k))(hc:n≤c)(hn2:n≤1000000000):
 Calls Tryz.prog 155 #[.slice A n c] w fun e w'=>∃g,e=.returned (.pointer (some ⟨g,0,none⟩))∧w.heap.size≤g∧HashIn w' g 242 (u8s (Mc.key64 k)) (Mc.mask (Mc.key64 k) 54)∧Below w.heap.size w w':=by
 have HBL:=qh (zsa A n c k w h hc hn2);have hkl:=Mc.key64_len k;have HMK:Hid (∀W:World,Calls Tryz.prog 175 #[.agg (u8s (Mc.key64 k)).toArray,.int .u8 54] W fun e w'=>e=.returned (.slice (some ⟨W.heap.size+1,0,none⟩) 64 64)∧Blk w' (W.heap.size+1) 5 (u8s (Mc.mask (Mc.key64 k) 54))∧Below W.heap.size W w'):=fun W=>ziw (Mc.key64 k) 54 W hkl
 have HKL:Hid ((u8s (Mc.key64 k)).length=64):=by show _=_;rw[zaa,hkl]
 have HML:Hid ((Mc.mask (Mc.key64 k) 54).length=64):=by show _=_;rw[Mc.mask_len,hkl]
 obtain⟨K,hK⟩:=ex9 (u8s (Mc.key64 k));rw[←hK]at HBL HMK HKL ⊢;have HBD:=qh (fun W=>build149 K HKL.out W);obtain⟨M,hM⟩:=ex9 (Mc.mask (Mc.key64 k) 54);rw[←hM]at HMK HML ⊢;clear hkl hK hM h
 go_enter Tryz.func155, Tryz.ntmps155
 go_wp2_with (first
  | (go_at_call 174;(with_reducible refine HBL.out.mono ?_);rintro e w1 ⟨rfl,hB1⟩)
  | (refine zaq rfl 242 [(1,.tmp 5)] rfl _ rr (.agg (tCells K).toArray) (HBD.out _) ?_))
 have HW:=qh (fun W A1 (hin:HashIn W w1.heap.size 242 K []) (hr:RdX W w1.heap.size A1 1 [M])=>zgq w1.heap.size 242 K [] A1 1 1 [M] W hin hr om (by simp;have:=HML.out;omega));have hin1:Hid (HashIn (w1.alloc (.cells (tCells K).toArray 242)) w1.heap.size 242 K []):=⟨_,_,Blk.new w1 _ _,Sh.hst_nil _ _ rfl sy⟩;have hld1:=hin1.out.key;have HB2:Hid (Below w.heap.size w (w1.alloc (.cells (tCells K).toArray 242))):=hB1.alloc hB1.size _;obtain⟨w2,hw2⟩:=ex9 (w1.alloc (.cells (tCells K).toArray 242));have hs2:w1.heap.size<w2.heap.size:=by rw[hw2];simp
 have hs1:=hB1.size;rw[←hw2]at hin1 hld1 HB2 ⊢;clear hw2 hB1;generalize w1.heap.size=g at *;have hu145:=Tryz.underlying238;have hi145:(Tryz.prog.info? 238).map (·.size)=some K.length:=by rw[HKL.out];exact hd145
 go_region_held3 (fun W'=>W'.rangeAt g 73 K) (first|assumption|exact hin1.out.key|exact hk3|exact zdw hk3 _|exact hk4) (first
  | (go_at_call 175;(with_reducible refine(HMK.out _).mono ?_);rintro e w3 ⟨rfl,hb3,hB3⟩;have hin3:=qh ((hin1.out.below (Below.refl _ _).drew).below hB3);have hl3:=hb3.lt;have hk3:=hin3.out.key)
  | (go_at_call 156;refine(HW.out _ _ (by exact hin3.out.below ((Below.refl _ _).alloc lr _)) (by exact RdX.one (by have h5:=hb3.rdAll;rw[HML.out]at h5;exact h5) (by show w2.heap.size+1≠g;omega) rfl (by have h6:w2.heap.size+1<w3.heap.size:=hl3;omega))).mono ?_;rintro e w4 ⟨rfl,hin4',hW4⟩;have hin4:=qh hin4';have hk4:=hin4.out.key;clear hin4'))
 have HB3:Hid (Below w.heap.size w w3):=HB2.out.drew.trans (hB3.mono HB2.out.size);have HB4:Hid (Below w.heap.size w w4):=Wrote.below hW4 (HB3.out.alloc HB3.out.size _) hs1 (Nat.le_trans HB3.out.size sy);clear hk3 hk4 hu145 hi145 hld1
 go_wp2_with fail
 go_ret;refine⟨g,rfl,hs1,?_,HB4.out⟩;have:=hin4.out
 simpa using this
theorem zsr(g:Nat)(kk l:List UInt8)(w:World)(h:HashIn w g 242 (u8s kk) l)(hkl:kk.length=64)(hl:l.length≤1000000000):
 Calls Tryz.prog 157 #[.pointer (some ⟨g,0,none⟩)] w fun e w'=>e=.returned (.agg (u8s (Sh.sha (Mc.mask kk 92++Sh.sha l))).toArray)∧Below w.heap.size w w':=by
 have HHS:=qh (fun W (hin:HashIn W g 242 (u8s kk) l)=>zno g 242 (u8s kk) l W hin om);have HMK:Hid (∀W:World,Calls Tryz.prog 175 #[.agg (u8s kk).toArray,.int .u8 92] W fun e w'=>e=.returned (.slice (some ⟨W.heap.size+1,0,none⟩) 64 64)∧Blk w' (W.heap.size+1) 5 (u8s (Mc.mask kk 92))∧Below W.heap.size W w'):=fun W=>ziw kk 92 W hkl
 have HKL:Hid ((u8s kk).length=64):=by show _=_;rw[zaa,hkl]
 have HML:Hid ((Mc.mask kk 92).length=64):=by show _=_;rw[Mc.mask_len,hkl]
 have HSL:Hid ((Sh.sha l).length=32):=Sh.sha_len l;have HI1:Hid ((Tryz.prog.info? 23).map (·.size)=some (u8s (Sh.sha l)).length):=by rw[zaa,Sh.sha_len];exact hd24
 have HL1:Hid ((u8s (Sh.sha l)).length=(u8s (List.replicate 32 0)).length):=by show _=_;rw[zaa,Sh.sha_len];rfl
 have HI2:Hid ((Tryz.prog.info? 23).map (·.size)=some (u8s (Sh.sha (Mc.mask kk 92++Sh.sha l))).length):=by rw[zaa,Sh.sha_len];exact hd24
 have HL2:Hid (0+(u8s (Sh.sha (Mc.mask kk 92++Sh.sha l))).length≤(u8s (List.replicate 32 0)).length):=by rw[zaa,Sh.sha_len];exact Nat.le_refl 32
 have HE2:Hid (splice (u8s (List.replicate 32 0)) 0 (u8s (Sh.sha (Mc.mask kk 92++Sh.sha l)))=u8s (Sh.sha (Mc.mask kk 92++Sh.sha l))):=zao _ _ (by rw[zaa,Sh.sha_len];rfl)
 have HSU:Hid (∀W A1,RdB W A1 2 [Mc.mask kk 92,Sh.sha l]→Calls Tryz.prog 178 #[.slice A1 2 2] W fun e w'=>e=.returned (.agg (u8s (Sh.sha (Mc.mask kk 92++Sh.sha l))).toArray)∧Below W.heap.size W w'):=fun W A1 hr=>by
  have:=zpl A1 2 2 _ W hr om (by simp[HML.out,HSL.out])
  simpa using this
 have HRB:Hid (∀(W:World) (b1 b2 g:Nat),g=W.heap.size→Rd W (some ⟨b1,0,none⟩) 64 (u8s (Mc.mask kk 92))→Rd W (some ⟨b2,0,none⟩) 32 (u8s (Sh.sha l))→RdB (W.alloc (.cells #[.slice (some ⟨b1,0,none⟩) 64 64,.slice (some ⟨b2,0,none⟩) 32 32] 22)) (some ⟨g,0,none⟩) 2 [Mc.mask kk 92,Sh.sha l]):=fun W b1 b2 g hg h1 h2 =>
  RdB.of_blk (Blk.new' (cs:=[.slice (some ⟨b1,0,none⟩) 64 64,.slice (some ⟨b2,0,none⟩) 32 32]) hg rfl) ⟨.of_rd (h1.alloc _) lr,.of_rd (h2.alloc _) lr,trivial⟩
 obtain⟨S1,hS1⟩:=ex9 (u8s (Sh.sha l));obtain⟨S2,hS2⟩:=ex9 (u8s (Sh.sha (Mc.mask kk 92++Sh.sha l)));have HO1:Hid (∀v∈S1,v.oneCell'=true):=by rw[hS1];exact zac _
 have HO2:Hid (∀v∈S2,v.oneCell'=true):=by rw[hS2];exact zac _
 rw[←hS1]at HHS HI1 HL1 HRB;rw[←hS2]at HI2 HL2 HE2 HSU ⊢;obtain⟨K,hK⟩:=ex9 (u8s kk);rw[←hK]at h HHS HMK HKL;have HIN:=qh h;have hgl:=h.lt;have HS1:=qh hS1;clear h hS1 hS2 hK
 go_enter Tryz.func157, Tryz.ntmps157
 go_wp2_with (first
  | (go_at_call 177;refine(HHS.out _ (by exact HIN.out.below ((Below.refl _ _).alloc lr _))).mono ?_;rintro e w1 ⟨rfl,hB1⟩;have hin1:=qh ((HIN.out.below ((Below.refl _ _).alloc lr _)).below hB1);have HB1:Hid (Below w.heap.size w w1):=((Below.refl _ _).alloc lr _).trans (hB1.mono sy);have HZ1:Hid (Blk w1 w.heap.size 23 (u8s (List.replicate 32 0))):=(Blk.new' rfl rfl:Blk _ w.heap.size _ _).below hB1 sy;clear hB1)
  | (refine zab rfl 23 (.tmp 3) (.tmp 7) rfl w1.heap.size S1 rr rr 23 (u8s (List.replicate 32 0)) (by exact Blk.new' rfl rfl) HI1.out HO1.out HL1.out ?_;intro w2 hb2 ho2))
 have hin2:Hid (HashIn w2 g 242 K l):=by
  obtain⟨st,op,hb,hst⟩:=hin1.out;exact⟨st,op,ho2.blk (hb.alloc _) (by have:=hb.lt;omega),hst⟩
 have HB2:Hid (Below w.heap.size w w2):=ho2.below (HB1.out.alloc HB1.out.size _) HB1.out.size (Nat.le_trans HB1.out.size sy);have HZ2:Hid (Blk w2 w.heap.size 23 (u8s (List.replicate 32 0))):=ho2.blk (HZ1.out.alloc _) (by have:=HZ1.out.lt;omega);have HX2:Hid (Rd w2 (some ⟨w1.heap.size,0,none⟩) 32 S1):=by have h5:=hb2.rd 0 32 (by rw[HL1.out];exact Nat.le_refl 32);rwa [List.drop_zero,tk (by rw[HL1.out];exact Nat.le_refl 32)]at h5
 have hk2:=hin2.out.key;have ht2:w2.there w.heap.size 0 32:=HZ2.out.there 0 32 (by rw[zaa];exact Nat.le_refl 32);have hu145:=Tryz.underlying238;have hi145:(Tryz.prog.info? 238).map (·.size)=some K.length:=by rw[HKL.out];exact hd145
 have hi24:=HI2.out;have hl24:S2.length=32:=by have:=HI2.out;rw[hd24]at this;injection this with this;exact this.symm
 have hone2:=HO2.out;clear hb2 ho2 hin1 HB1 HZ1
 go_region_held3 (fun W'=>W'.rangeAt g 73 K∧W'.there w.heap.size 0 32) (first|assumption|exact⟨hk2,ht2⟩|exact⟨hk3,ht3⟩|exact⟨zdw hk3 _,(HZ3.out.alloc _).there 0 32 (by rw[zaa];exact Nat.le_refl 32)⟩|exact⟨hk4,ht4⟩|exact⟨hk5,ht5⟩) (first
  | (go_at_call 175;(with_reducible refine(HMK.out _).mono ?_);rintro e w3 ⟨rfl,hb3,hB3⟩;have hin3:=qh ((hin2.out.below (Below.refl _ _).drew).below hB3);have hl3:=hb3.lt;have hk3:=hin3.out.key;have HZ3:Hid (Blk w3 w.heap.size 23 (u8s (List.replicate 32 0))):=HZ2.out.drew.below hB3 HZ2.out.lt;have ht3:w3.there w.heap.size 0 32:=HZ3.out.there 0 32 (by rw[zaa];exact Nat.le_refl 32);have hq3:Hid (Rd w3 (some ⟨w2.heap.size+1,0,none⟩) 64 (u8s (Mc.mask kk 92))):=by { have h5:=hb3.rdAll;rw[HML.out]at h5;exact h5 }
     have HX3:Hid (Rd w3 (some ⟨w1.heap.size,0,none⟩) 32 S1):=HX2.out.drew.below hB3)
  | (go_at_call 178;(with_reducible refine(HSU.out _ _ (by exact HRB.out _ _ _ _ rfl hq3.out HX3.out)).mono ?_);rintro e w4 ⟨rfl,hB4⟩;have hin4:=qh ((hin3.out.below ((Below.refl _ _).alloc lr _)).below hB4);have hk4:=hin4.out.key;have HZ4:Hid (Blk w4 w.heap.size 23 (u8s (List.replicate 32 0))):=(HZ3.out.alloc _).below hB4 (by have:=HZ3.out.lt;simp;omega);have ht4:w4.there w.heap.size 0 32:=HZ4.out.there 0 32 (by rw[zaa];exact Nat.le_refl 32);have hb5:Hid (Blk (w4.setCells w.heap.size 0 S2) w.heap.size 23 S2):=by { have h5:=zay w.heap.size _ S2 0 _ _ HZ4.out HL2.out;rw[HE2.out]at h5;exact h5 }
     have ht5:(w4.setCells w.heap.size 0 S2).there w.heap.size 0 32:=hb5.out.there 0 32 om
     have hk5:(w4.setCells w.heap.size 0 S2).rangeAt g 73 K:=by { obtain⟨st,op,hb,hst⟩:=hin4.out;exact HashIn.key (l:=l) ⟨st,op,(Only.of_setCells w4 w.heap.size 0 S2).blk hb om,hst⟩ }))
 have HB4:Hid (Below w.heap.size w w4):=((HB2.out.drew.trans (hB3.mono HB2.out.size)).alloc (Nat.le_trans HB2.out.size hB3.size) _).trans (hB4.mono (Nat.le_trans (Nat.le_trans HB2.out.size hB3.size) sy));clear hk2 hk3 hk4 hk5 ht2 ht3 ht4 ht5
 go_wp2_with fail
 exact bodyPost_ret (zam rfl _ w.heap.size _ S2 rfl hb5.out _ Tryz.underlying23 rfl HI2.out) rfl ⟨rfl,zbp w.heap.size w.heap.size w S2 0 _ HB4.out lr⟩
theorem zjb(A:Option Addr)(n c:Nat)(k:List UInt8)(A2:Option Addr)(n2 c2:Nat)(ls:List (List UInt8))(w:World)(h:Rd w A n (u8s k))(hc:n≤c)(hn:n≤1000000000)(h2:RdB w A2 n2 ls)(hn2:n2≤1000000)(hl:ls.flatten.length≤100000000):
 Calls Tryz.prog 127 #[.slice A n c,.slice A2 n2 c2] w fun e w'=>e=.returned (.agg (u8s (Mc.tag k ls.flatten)).toArray)∧Below w.heap.size w w':=by
 have hkl:=Mc.key64_len k;have hml:(Mc.mask (Mc.key64 k) 54).length=64:=by rw[Mc.mask_len,hkl]
 have HNT:=qh (fun W (h:Rd W A n (u8s k))=>zjt A n c k W h hc hn);have HWR:=qh (fun W g (hin:HashIn W g 242 (u8s (Mc.key64 k)) (Mc.mask (Mc.key64 k) 54)) (hr:RdX W g A2 n2 ls)=>zgq g 242 _ _ A2 n2 c2 ls W hin hr hn2 (by rw[hml];omega));have HTS:=qh (fun W g (hin:HashIn W g 242 (u8s (Mc.key64 k)) (Mc.mask (Mc.key64 k) 54++ls.flatten))=>zsr g (Mc.key64 k) _ W hin hkl (by rw[la9,hml];omega));have HI2:Hid ((Tryz.prog.info? 23).map (·.size)=some (u8s (Mc.tag k ls.flatten)).length):=by rw[zaa,Mc.tag_len];exact hd24
 have HL2:Hid ((u8s (Mc.tag k ls.flatten)).length=(u8s (List.replicate 32 0)).length):=by show _=_;rw[zaa,Mc.tag_len];rfl
 have HO2:Hid (∀v∈u8s (Mc.tag k ls.flatten),v.oneCell'=true):=zac _;have HX:Hid (∀W g,Below w.heap.size w W→w.heap.size≤g→RdX W g A2 n2 ls):=fun W g hW hg=>(RdX.of h2 hg).below hW
 have HR:=qh h;obtain⟨S2,hS2⟩:=ex9 (u8s (Mc.tag k ls.flatten));have HTS':Hid (∀W g,HashIn W g 242 (u8s (Mc.key64 k)) (Mc.mask (Mc.key64 k) 54++ls.flatten)→Calls Tryz.prog 157 #[.pointer (some ⟨g,0,none⟩)] W fun e w'=>e=.returned (.agg S2.toArray)∧Below W.heap.size W w'):=fun W g hin=>by rw[hS2];exact HTS.out W g hin
 rw[←hS2]at HI2 HL2 HO2 ⊢;clear hkl hml h h2 hS2 HTS
 go_enter Tryz.func127, Tryz.ntmps127
 go_wp2_with (first
  | (go_at_call 155;refine(HNT.out _ (by exact HR.out.alloc _)).mono ?_;rintro e w1 ⟨g,rfl,hg,hin1,hB1⟩;have hg2:w.heap.size<g:=by have h5:=hg;simp at h5;omega
     have HI1:=qh hin1;have HB1:Hid (Below w.heap.size w w1):=((Below.refl _ _).alloc lr _).trans (hB1.mono sy);have HZ1:Hid (Blk w1 w.heap.size 23 (u8s (List.replicate 32 0))):=(Blk.new' rfl rfl:Blk _ w.heap.size _ _).below hB1 sy
     clear hin1 hB1 hg)
  | (go_at_call 156;refine(HWR.out _ g HI1.out (HX.out _ g HB1.out om)).mono ?_;rintro e w2 ⟨rfl,hin2,hW2⟩;have HIN2:=qh hin2;have HB2:Hid (Below w.heap.size w w2):=Wrote.below hW2 HB1.out om HB1.out.size;have HZ2:Hid (Blk w2 w.heap.size 23 (u8s (List.replicate 32 0))):=Blk.wrote HZ1.out hW2 om;clear hin2 hW2)
  | (go_at_call 157;refine(HTS'.out _ g HIN2.out).mono ?_;rintro e w3 ⟨rfl,hB3⟩;have HB3:Hid (Below w.heap.size w w3):=HB2.out.trans (hB3.mono HB2.out.size);have HZ3:Hid (Blk w3 w.heap.size 23 (u8s (List.replicate 32 0))):=HZ2.out.below hB3 HZ2.out.lt;clear hB3)
  | (refine zab rfl 23 (.tmp 4) (.tmp 14) rfl w.heap.size S2 rr rr 23 _ HZ3.out HI2.out HO2.out HL2.out ?_;intro w8 hb8 ho8))
 exact bodyPost_ret (zam rfl _ w.heap.size _ S2 rfl hb8 _ Tryz.underlying23 rfl HI2.out) rfl ⟨rfl,ho8.below HB3.out lr HB3.out.size⟩
theorem zr1(t:List UInt8)(w:World)(ht:t.length=32):
 Calls Tryz.prog 126 #[.agg (u8s t).toArray] w fun e w'=>e=.returned (.slice (some ⟨w.heap.size+1,0,none⟩) 16 16)∧Blk w' (w.heap.size+1) 5 (u8s (t.take 16))∧Below w.heap.size w w':=by
 have HE:Hid (splice (u8s (List.replicate 16 0)) 0 ((u8s t).take 16)=u8s (t.take 16)):=by
  show _=_
  rw[zav];exact zao _ _ (by rw[zaa,zaa,List.length_take,ht];rfl)
 have HT:=qh ht;obtain⟨U,hU⟩:=ex9 (u8s t);have HU:=qh hU;have HU1:Hid (∀v∈U,v.oneCell'=true):=by rw[hU];exact zac _
 have HUL:Hid (U.length=32):=by rw[hU];show _=_;rw[zaa,ht]
 rw[←hU]at HE ⊢;clear hU ht
 go_enter Tryz.func126, Tryz.ntmps126
 go_wp2_with (first
  | (refine zak rfl (.const (.int .i64 16)) (.const (.int .i64 16)) 22 rfl 5 (.int .u8 0) 1 Tryz.underlying22 iU8 rfl .i64 .i64 16 16 rr rr 16 16 rfl rfl lr om om ?_;intro w1 hb1 hg1 hs1;have HR1:Hid (Rd w1 (some ⟨w.heap.size,0,none⟩) 32 U):=by { have h5:=((Blk.new w 23 U).below (zae hg1) sy).rd 0 32 (by rw[HUL.out];exact Nat.le_refl 32);rw[List.drop_zero,tk (by rw[HUL.out];exact Nat.le_refl 32)]at h5;exact h5 }
     have HB1:Hid (Below w.heap.size w w1):=((Below.refl _ _).alloc lr _).trans ((zae hg1).mono sy);have HZ1:Hid (Blk w1 (w.heap.size+1) 5 (u8s (List.replicate 16 0))):=by { have h5:=hb1;rw[show(w.alloc (.cells U.toArray 23)).heap.size=w.heap.size+1 by simp]at h5;exact h5 }
     clear hb1 hg1 hs1)
  | (refine za6 rfl (.tmp 5) (.tmp 6) 22 rfl 5 Tryz.underlying22 zbv (w.heap.size+1) 0 16 16 rr (some ⟨w.heap.size,0,none⟩) 32 32 rr 5 (u8s (List.replicate 16 0)) HZ1.out U HR1.out HU1.out (by rw[zaa];exact lr) ?_;intro w2 hb2 ho2;rw[HE.out]at hb2;have HB2:Hid (Below w.heap.size w w2):=ho2.below HB1.out om HB1.out.size))
 go_ret;exact⟨rfl,hb2,HB2.out⟩
theorem zpt(A:Option Addr)(n c:Nat)(k:List UInt8)(A2:Option Addr)(n2 c2:Nat)(ls:List (List UInt8))(w:World)(h:Rd w A n (u8s k))(hc:n≤c)(hn:n≤1000000000)(h2:RdB w A2 n2 ls)(hn2:n2≤1000000)(hl:ls.flatten.length≤100000000):
 Calls Tryz.prog 81 #[.slice A n c,.slice A2 n2 c2] w fun e w'=>∃g,e=.returned (.slice (some ⟨g,0,none⟩) 16 16)∧w.heap.size≤g∧Blk w' g 5 (u8s ((Mc.tag k ls.flatten).take 16))∧Below w.heap.size w w':=by
 have HT:=qh (zjb A n c k A2 n2 c2 ls w h hc hn h2 hn2 hl);have HF:=qh (fun W=>zr1 (Mc.tag k ls.flatten) W (Mc.tag_len _ _));clear h h2
 go_enter Tryz.func81, Tryz.ntmps81
 go_wp2_with (first
  | (go_at_call 127;refine HT.out.mono ?_;rintro e w1 ⟨rfl,hB1⟩)
  | (go_at_call 126;refine(HF.out _).mono ?_;rintro e w2 ⟨rfl,hb2,hB2⟩))
 go_ret;exact⟨_,rfl,by have:=hB1.size;omega,hb2,hB1.trans (hB2.mono hB1.size)⟩
theorem zmh(A:Option Addr)(n c:Nat)(k:List UInt8)(A2:Option Addr)(n2 c2:Nat)(l:List UInt8)(w:World)(h:Rd w A n (u8s k))(hc:n≤c)(hn:n≤1000000000)(h2:Rd w A2 n2 (u8s l))(hc2:n2≤c2)(hl:n2≤100000000):
 Calls Tryz.prog 162 #[.slice A n c,.slice A2 n2 c2] w fun e w'=>e=.returned (.agg (u8s (Mc.tag k l)).toArray)∧Below w.heap.size w w':=by
 have hll:l.length=n2:=h2.len
 have HTG:Hid (∀W A3,Rd W A n (u8s k)→RdB W A3 1 [l]→Calls Tryz.prog 127 #[.slice A n c,.slice A3 1 1] W fun e w'=>e=.returned (.agg (u8s (Mc.tag k l)).toArray)∧Below W.heap.size W w'):=fun W A3 h1 hr=>by
  have:=zjb A n c k A3 1 1 [l] W h1 hc hn hr om (by simp;omega)
  simpa using this
 have HRB:Hid (∀(W:World) (g:Nat),g=W.heap.size→Rd W A2 n2 (u8s l)→RdB (W.alloc (.cells #[.slice A2 n2 c2] 22)) (some ⟨g,0,none⟩) 1 [l]):=fun W g hg hr=>RdB.of_blk (ls:=[l]) (Blk.new' (cs:=[.slice A2 n2 c2]) hg rfl) ⟨.of_rd (hr.alloc _) hc2,trivial⟩
 have HI2:Hid ((Tryz.prog.info? 23).map (·.size)=some (u8s (Mc.tag k l)).length):=by rw[zaa,Mc.tag_len];exact hd24
 have HL2:Hid ((u8s (Mc.tag k l)).length=(u8s (List.replicate 32 0)).length):=by show _=_;rw[zaa,Mc.tag_len];rfl
 have HO2:Hid (∀v∈u8s (Mc.tag k l),v.oneCell'=true):=zac _;have HR:=qh h;have HR2:=qh h2;obtain⟨S2,hS2⟩:=ex9 (u8s (Mc.tag k l));rw[←hS2]at HTG HI2 HL2 HO2 ⊢;clear hll h h2 hS2
 go_enter Tryz.func162, Tryz.ntmps162
 go_wp2_with (first
  | (go_at_call 127;(with_reducible refine(HTG.out _ _ (by exact(HR.out.alloc _).alloc _) (by exact HRB.out _ _ sy (HR2.out.alloc _))).mono ?_);rintro e w1 ⟨rfl,hB1⟩;have HB1:Hid (Below w.heap.size w w1):=(((Below.refl _ _).alloc lr _).alloc sy _).trans (hB1.mono (by simp;omega));have HZ1:Hid (Blk w1 w.heap.size 23 (u8s (List.replicate 32 0))):=((Blk.new' rfl rfl:Blk _ w.heap.size _ _).alloc _).below hB1 (by simp;omega))
  | (refine zab rfl 23 (.tmp 4) (.tmp 8) rfl w.heap.size S2 rr rr 23 _ HZ1.out HI2.out HO2.out HL2.out ?_;intro w8 hb8 ho8))
 exact bodyPost_ret (zam rfl _ w.heap.size _ S2 rfl hb8 _ Tryz.underlying23 rfl HI2.out) rfl ⟨rfl,ho8.below HB1.out lr HB1.out.size⟩
section
theorem zo1{s b:List UInt32}{k:Nat}{x y:UInt32}(h1:s[k]? = some x)(h2:b[k]? = some y):Ch.final s b (k+1)=Ch.final s b k++Ch.leBytes (x+y):=by
 rw[Ch.final,gd9,gd9,h1,h2];rfl
attribute [local go_sem] zd1 zeb
theorem zl6(z:UInt32):[Value.int .u8 (n32 z%256),.int .u8 (n32 z/256%256),.int .u8 (n32 z/65536%256),.int .u8 (n32 z/16777216%256)]=u8s (Ch.leBytes z):=by
 rw[b24,b16,b8,b0];rfl
theorem zml(A B:Option Addr)(c d:Nat)(key nonce:List UInt8)(ctr:UInt32)(w:World)(h:Rd w A 32 (u8s key))(h2:Rd w B 12 (u8s nonce)):
 Calls Tryz.prog 165 #[.slice A 32 c,.slice B 12 d,.int .u32 (n32 ctr)] w fun e w'=>∃A' c',e=.returned (.tuple #[.slice A' 64 c',.int .i64 0])∧64≤c'∧w'.ownsRow w.heap.size 5 1 (.slice A' 64 c') 64 (u8s (Ch.block key nonce ctr))∧Below w.heap.size w w':=by
 have HIN:=qh (zmc A B c d key nonce ctr w h h2);have hl16:=Ch.initial_len key nonce ctr;have HBK:Hid (Ch.block key nonce ctr=Ch.final (Ch.rounds (Ch.initial key nonce ctr) 10) (Ch.initial key nonce ctr) 16):=rfl;obtain⟨s0,hs0⟩:=ex9 (Ch.initial key nonce ctr);rw[←hs0]at HIN hl16 HBK;have HI:Hid ((Tryz.prog.info? 268).map (·.size)=some (u32s s0).length):=by rw[za1,hl16];exact hd184
 have HL:Hid ((u32s s0).length=16):=by show _=_;rw[za1,hl16]
 have H1:Hid (∀v∈u32s s0,v.oneCell'=true):=zbb _;have H16:=qh hl16;obtain⟨U,hU⟩:=ex9 (u32s s0);rw[←hU]at HIN HI HL H1;have HU:=qh hU;clear h h2 hs0 hl16 hU
 go_enter Tryz.func165, Tryz.ntmps165
 go_wp2_with (first
  | (go_at_call 182;(with_reducible refine HIN.out.mono ?_);rintro e w1 ⟨rfl,hB1⟩)
  | (refine zab rfl 268 (.tmp 8) (.tmp 24) rfl w1.heap.size U rr rr 268 (row32 [] 16) (by exact Blk.new' rfl rfl) HI.out H1.out (by rw[HL.out];rfl) ?_;intro w2 hb2 ho2;have hsz2:w2.heap.size=w1.heap.size+1:=by rw[ho2.size];simp
     have HSZ2:=qh hsz2;have HB2:Hid (Below w.heap.size w w2):=ho2.below (hB1.alloc hB1.size _) hB1.size (Nat.le_trans hB1.size sy)
     clear hsz2 ho2)
  | refine wpList_load_mid rfl 268 (.tmp 8) rfl w1.heap.size 0 rr U _ hb2.range Tryz.underlying268 rfl HI.out ?_
  | (refine zab rfl 268 (.tmp 9) (.tmp 25) rfl w2.heap.size U rr rr 268 (row32 [] 16) (by exact Blk.new' rfl rfl) HI.out H1.out (by rw[HL.out];rfl) ?_;intro w3 hb3 ho3;have HB3:Hid (Below w.heap.size w w3):=ho3.below (HB2.out.alloc HB2.out.size _) HB2.out.size (Nat.le_trans HB2.out.size sy);have HF3:Hid (Blk w3 w1.heap.size 268 U):=ho3.blk (hb2.alloc _) (by have:=hb2.lt;omega)))
 have hg1:=hB1.size;have hg2:w1.heap.size<w2.heap.size:=by have:=HSZ2.out;omega
 have HB3':Hid (Blk w3 w2.heap.size 268 (u32s (Ch.rounds s0 0))):=by show Blk _ _ _ (u32s s0);rw[←HU.out];exact hb3
 clear hB1 hb2 hb3 ho3 HSZ2 HB2;generalize w1.heap.size=g at *;generalize w2.heap.size=g2 at *
 go_loopg [26] 10 (fun k q wr=>∃i:Nat,i≤10∧k=10-i∧q=.int .i64 i∧Blk wr g2 268 (u32s (Ch.rounds s0 i))∧Blk wr g 268 U∧Below w.heap.size w wr)
 case atStart=>exact⟨0,by omega,rfl,rfl,HB3'.out,HF3.out,HB3.out⟩
 case round =>
  clear HB3' HF3 HB3;obtain⟨i,hi,hgk,rfl,hb,hf,hB⟩:=hrel;have HGK:=qh hgk;clear hgk
  by_cases hlt:i<10
  · have hlt2:(i:Int)<10:=om
    have hrl:(Ch.rounds s0 i).length=16:=by rw[Ch.rounds_len];exact H16.out
    have HE:Hid (Ch.rounds s0 (i+1)=Ch.double (Ch.rounds s0 i)):=rfl;obtain⟨r,hr⟩:=ex9 (Ch.rounds s0 i);rw[←hr]at hrl HE hb;clear hr;have HR:=qh hrl;have HBL:=qh hb;have HFL:=qh hf;have HBE:=qh hB;clear hrl hb hf hB
    go_wp2_with (first
     | (go_at_call 183;(with_reducible refine(zv6 g2 _ _ _ K7.out (by rw[Ch.round_len,Ch.round_len,Ch.round_len,Ch.round_len,Ch.round_len,Ch.round_len,Ch.round_len];exact HR.out)).mono ?_);rintro e x8 ⟨rfl,k8,v8⟩;have K8:=qh k8;have V8:=qh (V7.out.wrote v8 om);have E8:=qh (Wrote.below v8 E7.out om E7.out.size);clear k8 v8)
     | (go_at_call 183;(with_reducible refine(zv7 g2 _ _ _ K6.out (by rw[Ch.round_len,Ch.round_len,Ch.round_len,Ch.round_len,Ch.round_len,Ch.round_len];exact HR.out)).mono ?_);rintro e x7 ⟨rfl,k7,v7⟩;have K7:=qh k7;have V7:=qh (V6.out.wrote v7 om);have E7:=qh (Wrote.below v7 E6.out om E6.out.size);clear k7 v7)
     | (go_at_call 183;(with_reducible refine(zv8 g2 _ _ _ K5.out (by rw[Ch.round_len,Ch.round_len,Ch.round_len,Ch.round_len,Ch.round_len];exact HR.out)).mono ?_);rintro e x6 ⟨rfl,k6,v6⟩;have K6:=qh k6;have V6:=qh (V5.out.wrote v6 om);have E6:=qh (Wrote.below v6 E5.out om E5.out.size);clear k6 v6)
     | (go_at_call 183;(with_reducible refine(zv9 g2 _ _ _ K4.out (by rw[Ch.round_len,Ch.round_len,Ch.round_len,Ch.round_len];exact HR.out)).mono ?_);rintro e x5 ⟨rfl,k5,v5⟩;have K5:=qh k5;have V5:=qh (V4.out.wrote v5 om);have E5:=qh (Wrote.below v5 E4.out om E4.out.size);clear k5 v5)
     | (go_at_call 183;(with_reducible refine(zwa g2 _ _ _ K3.out (by rw[Ch.round_len,Ch.round_len,Ch.round_len];exact HR.out)).mono ?_);rintro e x4 ⟨rfl,k4,v4⟩;have K4:=qh k4;have V4:=qh (V3.out.wrote v4 om);have E4:=qh (Wrote.below v4 E3.out om E3.out.size);clear k4 v4)
     | (go_at_call 183;(with_reducible refine(zwb g2 _ _ _ K2.out (by rw[Ch.round_len,Ch.round_len];exact HR.out)).mono ?_);rintro e x3 ⟨rfl,k3,v3⟩;have K3:=qh k3;have V3:=qh (V2.out.wrote v3 om);have E3:=qh (Wrote.below v3 E2.out om E2.out.size);clear k3 v3)
     | (go_at_call 183;(with_reducible refine(zwc g2 _ _ _ K1.out (by rw[Ch.round_len];exact HR.out)).mono ?_);rintro e x2 ⟨rfl,k2,v2⟩;have K2:=qh k2;have V2:=qh (V1.out.wrote v2 om);have E2:=qh (Wrote.below v2 E1.out om E1.out.size);clear k2 v2)
     | (go_at_call 183;(with_reducible refine(zwd g2 _ r _ HBL.out HR.out).mono ?_);rintro e x1 ⟨rfl,k1,v1⟩;have K1:=qh k1;have V1:=qh (HFL.out.wrote v1 om);have E1:=qh (Wrote.below v1 HBE.out om HBE.out.size);clear k1 v1))
    go_roundg (10-(i+1))
    case measure=>have:=HGK.out;omega
    case rel=>exact⟨i+1,by omega,rfl,by go_num,by rw[HE.out];exact K8.out,V8.out,E8.out⟩
  · obtain rfl:i=10:=om
    have hlt2:¬((10:Nat):Int)<10:=om;clear HGK hlt hi;have hrl:(Ch.rounds s0 10).length=16:=by rw[Ch.rounds_len];exact H16.out
    obtain⟨r,hr⟩:=ex9 (Ch.rounds s0 10);rw[←hr]at hrl hb HBK;clear hr;have HRL:=qh hrl;have HRI:Hid ((Tryz.prog.info? 268).map (·.size)=some (u32s r).length):=by rw[za1,hrl];exact hd184
    have HIX:=qh (fun(W:World) (i:Nat) (x:UInt32) (hi:i<16) (hx:r[i]? = some x)=>zpx (P:=Tryz.prog) (w:=W) 268 44 16 i (u32s r) (.int .u32 (n32 x)) Tryz.underlying268 szU32 agU32 hi (zbw hx));obtain⟨R,hR⟩:=ex9 (u32s r);rw[←hR]at hb HRI HIX;have HB:=qh hb;have HF:=qh hf;have HBE:=qh hB;have hs:=hB.size;clear hrl hb hf hB hR
    go_wp2_with (first
     | (refine zak rfl (.const (.int .i64 0)) (.const (.int .i64 64)) 22 rfl 5 (.int .u8 0) 1 Tryz.underlying22 iU8 rfl .i64 .i64 0 64 rr rr 0 64 rfl rfl om om om ?_;intro w4 hb4 hg4 hs4;have HO4:=qh (show w4.ownsRow (g2+1) 5 1 (.slice (some ⟨wr.heap.size,0,none⟩) 0 64) 0 (u8s []) from (by have h5:=zbe hb4 HB.out.lt 0 64 1 om (by simp[za8]) om;simpa[u8s] using h5));have HB4:Hid (Blk w4 g2 268 R):=HB.out.below (zae hg4) HB.out.lt;have HF4:Hid (Blk w4 g 268 U):=HF.out.below (zae hg4) HF.out.lt;have HE4:Hid (Below w.heap.size w w4):=HBE.out.trans ((zae hg4).mono HBE.out.size);clear hb4 hg4 hs4)
     | refine wpList_load_mid rfl 268 (.tmp 9) rfl g2 0 rr R _ HB4.out.range Tryz.underlying268 rfl HRI.out ?_)
    go_loopg [10,39] 16 (fun k v q wr=>∃i:Nat,i≤16∧k=16-i∧q=.int .i64 i∧(∃A' c',v=.slice A' (4*i) c'∧4*i≤c'∧wr.ownsRow (g2+1) 5 1 (.slice A' (4*i) c') (4*i) (u8s (Ch.final r s0 i)))∧g2<wr.heap.size∧Blk wr g 268 U∧Below w.heap.size w wr)
    case atStart=>exact⟨0,by omega,rfl,rfl,⟨_,_,rfl,by omega,HO4.out⟩,HB4.out.lt,HF4.out,HE4.out⟩
    case round =>
     clear HB HF HBE HO4 HB4 HF4 HE4 hlt2;obtain⟨i,hi,hgk,rfl,⟨A',c',rfl,hc',hown⟩,hgs,hf,hB⟩:=hrel;have HGK:=qh hgk;clear hgk
     by_cases hlt:i<16
     · have hlt2:(i:Int)<16:=om
       obtain⟨x,hx⟩:∃x,r[i]? = some x:=⟨_,ge9 (by rw[HRL.out];exact hlt)⟩;obtain⟨y,hy⟩:∃y,s0[i]? = some y:=⟨_,ge9 (by rw[H16.out];exact hlt)⟩;have hidx:=fun W=>HIX.out W i x hlt hx
       have cy:wr.cell? ⟨g,i,none⟩=some (.int .u32 (n32 y)):=by rw[hf.cell,HU.out];exact zbw hy
       have HST:=qh (zo1 hx hy);have HF:=qh hf;have HBE:=qh hB;have HOW:=qh hown;have hbs:=hB.size
       have HNEW:Hid (RdS 1 (wr.alloc (.cells #[.int .u8 (n32 (x+y)%256),.int .u8 (n32 (x+y)/256%256),.int .u8 (n32 (x+y)/65536%256),.int .u8 (n32 (x+y)/16777216%256)] 5)) (some ⟨wr.heap.size,0,none⟩) 4 (u8s (Ch.leBytes (x+y)))):=by
        rw[←zl6];exact⟨rfl,fun _=>⟨wr.heap.size,0,rfl,by simp,fun j u hu=>by rw[(Blk.new wr _ _).cell,Nat.zero_add];exact hu⟩⟩
       clear hf hB hown hx hy
       go_wp2_with (first
        | (at_builtin;refine zah rfl (.tmp 48) (.tmp 60) 22 rfl (g2+1) 5 1 1 Tryz.underlying22 eU8 (.slice A' (4*i) c') (4*i) (u8s (Ch.final r s0 i)) rr (by exact HOW.out.alloc _) (some ⟨wr.heap.size,0,none⟩) 4 4 (u8s (Ch.leBytes (x+y))) rr (by exact HNEW.out) (zac _) om om (by simp;omega) ?_;intro A2 c2 w2 hown2 hc2 hg2 hat2))
       have HF2:=qh ((HF.out.alloc (.cells #[.int .u8 (n32 (x+y)%256),.int .u8 (n32 (x+y)/256%256),.int .u8 (n32 (x+y)/65536%256),.int .u8 (n32 (x+y)/16777216%256)] 5)).grown hg2 (fun e=>by have:=(HOW.out.lt g e.symm).1;omega));have HE2:=qh ((HBE.out.alloc HBE.out.size (.cells #[.int .u8 (n32 (x+y)%256),.int .u8 (n32 (x+y)/256%256),.int .u8 (n32 (x+y)/65536%256),.int .u8 (n32 (x+y)/16777216%256)] 5)).grown hg2 (Nat.le_trans HBE.out.size sy) (fun k hk=>by have:=(HOW.out.lt k hk).1;omega));have hgs2:g2<w2.heap.size:=by have:=hg2.size;simp at this;omega
       go_roundg (16-(i+1))
       case measure=>have:=HGK.out;omega
       case rel=>exact⟨i+1,by omega,rfl,by go_num,⟨A2,c2,rfl,by omega,by rw[HST.out,zad];exact hown2⟩,hgs2,HF2.out,HE2.out⟩
     · obtain rfl:i=16:=om
       have hlt2:¬((16:Nat):Int)<16:=om;have HOW:=qh (za7 hown (base':=w.heap.size) om);rw[←HBK.out]at HOW;clear hown
       go_wp2_with fail
       go_ret2;exact⟨A',c',rfl,hc',HOW.out,hB⟩
end
theorem zb6{w:World}{base n c:Nat}{e:TypeId}{A:Option Addr}{xs:List Value}(h:w.ownsRow base e 1 (.slice A n c) n xs)(hn:0<n):∃g,A=some ⟨g,0,none⟩∧base≤g∧g<w.heap.size∧Rd w (some ⟨g,0,none⟩) n xs:=by
 have hr:=Rd.of_own h
 rcases h.2 with ⟨_,h0⟩|⟨g,cap,cur,hv,hb,hg,_⟩
 · omega
 · injection hv with hA
   subst hA;exact⟨g,rfl,hb,(Array.getElem?_eq_some_iff.1 hg).1,hr⟩
theorem zaf{w w':World}{base n:Nat}{e:TypeId}{size:Nat}{v:Value}{xs:List Value}(h:w.ownsRow base e size v n xs)(hB:Below w.heap.size w w'):w'.ownsRow base e size v n xs:=by
 obtain⟨h1,h2⟩:=h;refine⟨h1,?_⟩
 rcases h2 with h2|⟨g,cap,cur,hv,hb,hg,r⟩
 · exact .inl h2
 · exact .inr ⟨g,cap,cur,hv,hb,(hB.block g (Array.getElem?_eq_some_iff.1 hg).1).trans hg,r⟩
theorem ze5{w:World}{g o n:Nat}{l:List UInt8}(h:Rd w (some ⟨g,o,none⟩) n (u8s l))(f d:Nat)(hd:f+d≤n):Rd w (some ⟨g,o+f,none⟩) d (u8s ((l.drop f).take d)):=by
 have:=h.cut (A':=some ⟨g,o+f,none⟩) (m:=f+d) (k:=f) hd om (fun _ b off e=>by injection e with e;injection e with e1 e2;subst e1;subst e2;rfl);rw[zav,zbd,show f+d-f=d by omega,List.drop_take,show f+d-f=d by omega]at this;exact this
theorem zhe(k:Nat)(h:k<4294967296):n32 (UInt32.ofNat k)=(k:Int):=by unfold n32;rw[UInt32.toNat_ofNat'];omega
theorem zo8(A B:Option Addr)(c d:Nat)(key nonce:List UInt8)(k:Nat)(hk:k<4294967296)(w:World)(h:Rd w A 32 (u8s key))(h2:Rd w B 12 (u8s nonce)):
 Calls Tryz.prog 165 #[.slice A 32 c,.slice B 12 d,.int .u32 (k:Int)] w fun e w'=>∃g c',e=.returned (.tuple #[.slice (some ⟨g,0,none⟩) 64 c',.int .i64 0])∧64≤c'∧w.heap.size≤g∧Rd w' (some ⟨g,0,none⟩) 64 (u8s (Ch.block key nonce (UInt32.ofNat k)))∧Below w.heap.size w w':=by
 have:=zml A B c d key nonce (UInt32.ofNat k) w h h2;rw[zhe k hk]at this;refine this.mono ?_;rintro e w' ⟨A',c',rfl,hc,hown,hB⟩;obtain⟨g,rfl,hg,_,hr⟩:=zb6 hown om;exact⟨g,c',rfl,hc,hg,hr,hB⟩
theorem zfo(key:List UInt8)(p j d:Nat)(h:(p+j)%64+d≤64):Ch.piece key p (j+d)=Ch.piece key p j++((Ch.block key (Ch.zeros 12) (UInt32.ofNat ((p+j)/64))).drop ((p+j)%64)).take d:=by
 rw[Ch.piece_add,Ch.piece_block _ _ _ h]
theorem zkt(A:Option Addr)(c:Nat)(key:List UInt8)(p n:Nat)(w:World)(h:Rd w A 32 (u8s key))(hp:p≤1000000)(hn:n≤1000000):
 Calls Tryz.prog 140 #[.slice A 32 c,.int .i64 p,.int .i64 n] w fun e w'=>∃A' c',e=.returned (.slice A' n c')∧n≤c'∧w'.ownsRow w.heap.size 5 1 (.slice A' n c') n (u8s (Ch.piece key p n))∧Below w.heap.size w w':=by
 have HR:=qh h;clear h
 go_enter Tryz.func140, Tryz.ntmps140
 go_wp2_with (first
  | (refine zak rfl (.const (.int .i64 12)) (.const (.int .i64 12)) 22 rfl 5 (.int .u8 0) 1 Tryz.underlying22 iU8 rfl .i64 .i64 12 12 rr rr 12 12 rfl rfl om om om ?_;intro w1 hb1 hg1 hs1;have HZ1:Hid (Blk w1 w.heap.size 5 (u8s (Ch.zeros 12))):=hb1;have HB1:Hid (Below w.heap.size w w1):=zae hg1;have hsz1:w.heap.size<w1.heap.size:=om;clear hb1 hg1 hs1)
  | (refine zak rfl (.const (.int .i64 0)) (.tmp 12) 22 rfl 5 (.int .u8 0) 1 Tryz.underlying22 iU8 rfl .i64 .i64 0 (n:Int) rr rr 0 n rfl rfl om om om ?_;intro w2 hb2 hg2 hs2;have HO2:=qh (show w2.ownsRow (w.heap.size+1) 5 1 (.slice (some ⟨w1.heap.size,0,none⟩) 0 n) 0 (u8s (Ch.piece key p 0)) from (by have h5:=zbe hb2 hsz1 0 n 1 om (by simp[za8]) om;simpa[u8s,Ch.piece] using h5));have HZ2:Hid (Blk w2 w.heap.size 5 (u8s (Ch.zeros 12))):=HZ1.out.below (zae hg2) HZ1.out.lt;have HB2:Hid (Below w.heap.size w w2):=HB1.out.trans ((zae hg2).mono HB1.out.size);clear hb2 hg2 hs2))
 go_loopg [1,8] n (fun k qa v wr=>∃j m:Nat,j≤n∧k=n-j∧m=p+j∧qa=.int .i64 m∧(∃A' c',v=.slice A' j c'∧j≤c'∧wr.ownsRow (w.heap.size+1) 5 1 (.slice A' j c') j (u8s (Ch.piece key p j)))∧Blk wr w.heap.size 5 (u8s (Ch.zeros 12))∧Below w.heap.size w wr)
 case atStart=>exact⟨0,p,by omega,rfl,rfl,rfl,⟨_,_,rfl,by omega,HO2.out⟩,HZ2.out,HB2.out⟩
 case round =>
  clear HZ1 HB1 HO2 HZ2 HB2 hsz1;obtain⟨j,m,hj,hgk,hmj,rfl,⟨A',c',rfl,hc',hown⟩,hz,hB⟩:=hrel;have HGK:=qh hgk;have HMJ:=qh hmj;have hm:m≤2000000:=om;clear hgk hmj
  by_cases hlt:j<n
  · have hlt2:(j:Int)<(n:Int):=om
    obtain⟨f,hf⟩:=ex9 (m%64);have hf64:f<64:=om;have hfi:(m:Int)%64=(f:Int):=om;obtain⟨kk,hkk⟩:=ex9 (m/64);have hki:(m:Int)/64=(kk:Int):=om;have hk32:kk<4294967296:=om;have HBL:Hid (∀W,Rd W A 32 (u8s key)→Rd W (some ⟨w.heap.size,0,none⟩) 12 (u8s (Ch.zeros 12))→Calls Tryz.prog 165 #[.slice A 32 c,.slice (some ⟨w.heap.size,0,none⟩) 12 12,.int .u32 (kk:Int)] W fun e w'=>∃g c',e=.returned (.tuple #[.slice (some ⟨g,0,none⟩) 64 c',.int .i64 0])∧64≤c'∧W.heap.size≤g∧Rd w' (some ⟨g,0,none⟩) 64 (u8s (Ch.block key (Ch.zeros 12) (UInt32.ofNat kk)))∧Below W.heap.size W w'):=fun W h1 h2=>zo8 A _ c 12 key (Ch.zeros 12) kk hk32 W h1 h2
    have hbl:=Ch.block_len key (Ch.zeros 12) (UInt32.ofNat kk)
    have HPN:Hid (∀d,f+d≤64→Ch.piece key p (j+d)=Ch.piece key p j++((Ch.block key (Ch.zeros 12) (UInt32.ofNat kk)).drop f).take d):=fun d hd=>by
     have:=HMJ.out;subst this;rw[hf,hkk];exact zfo key p j d om
    obtain⟨bl,hbe⟩:=ex9 (Ch.block key (Ch.zeros 12) (UInt32.ofNat kk));rw[←hbe]at HBL HPN hbl;have HLEN:=qh hbl;have HF:=qh hf;have HZ:=qh hz;have HBE:=qh hB;have HOW:=qh hown;have HZR:Hid (Rd wr (some ⟨w.heap.size,0,none⟩) 12 (u8s (Ch.zeros 12))):=by have h5:=hz.rdAll;exact h5
    have hbs:=hB.size;clear hbe hkk hbl hf hz hB hown hk32;have hbz:=HZ.out.lt
    by_cases hcut:n-j<64-f
    · have hct:((n:Int)-(j:Int)<((64-f:Nat):Int)):=om
      have hjn:j+(n-j)=n:=om;have HSTEP:=qh (HPN.out (n-j) om)
      go_wp2_with (first
       | (go_at_call 165;(with_reducible refine(HBL.out _ (by exact HR.out.below HBE.out) (by exact HZR.out)).mono ?_);rintro e w3 ⟨g,c3,rfl,hc3,hg3,hr3,hB3⟩;have hne3:¬c3=f:=om;have hfc3:(f:Int)≤(c3:Int):=om;have HR3:Hid (Rd w3 (some ⟨g,f,none⟩) (n-j) (u8s ((bl.drop f).take (n-j)))):=(by have h5:=ze5 hr3 f (n-j) om;rw[Nat.zero_add]at h5;exact h5);have HB3:=qh hB3;have hs3:=hB3.size;clear hr3 hB3)
       | (at_builtin;refine zah rfl (.tmp 44) (.tmp 45) 22 rfl (w.heap.size+1) 5 1 1 Tryz.underlying22 eU8 (.slice A' j c') j (u8s (Ch.piece key p j)) rr (by exact zaf HOW.out HB3.out) (some ⟨g,f,none⟩) (n-j) (c3-f) (u8s ((bl.drop f).take (n-j))) rr (by exact HR3.out.toS) (zac _) om om om ?_;intro A4 c4 w4 hown4 hc4 hg4 hat4;have HO4:=qh hown4;rw[←zad,←HSTEP.out]at HO4;have HZ4:=qh (((HZ.out.below HB3.out HZ.out.lt).grown hg4 (fun e=>by have:=(HOW.out.lt _ e.symm).1;omega)));have HE4:=qh ((HBE.out.trans (HB3.out.mono HBE.out.size)).grown hg4 (Nat.le_trans HBE.out.size HB3.out.size) (fun k hk=>by have:=(HOW.out.lt k hk).1;omega));clear hown4 hg4 hat4))
      go_roundg (n-(j+(n-j)))
      case measure=>have:=HGK.out;omega
      case rel=>exact⟨j+(n-j),m+(n-j),by omega,rfl,by have:=HMJ.out;omega,by go_num,⟨A4,c4,by rw[hjn],by omega,HO4.out⟩,HZ4.out,HE4.out⟩
    · have hct:¬((n:Int)-(j:Int)<((64-f:Nat):Int)):=om
      have HSTEP:=qh (HPN.out (64-f) om)
      go_wp2_with (first
       | (go_at_call 165;(with_reducible refine(HBL.out _ (by exact HR.out.below HBE.out) (by exact HZR.out)).mono ?_);rintro e w3 ⟨g,c3,rfl,hc3,hg3,hr3,hB3⟩;have hne3:¬c3=f:=om;have hfc3:(f:Int)≤(c3:Int):=om;have HR3:Hid (Rd w3 (some ⟨g,f,none⟩) (64-f) (u8s ((bl.drop f).take (64-f)))):=(by have h5:=ze5 hr3 f (64-f) om;rw[Nat.zero_add]at h5;exact h5);have HB3:=qh hB3;have hs3:=hB3.size;clear hr3 hB3)
       | (at_builtin;refine zah rfl (.tmp 44) (.tmp 45) 22 rfl (w.heap.size+1) 5 1 1 Tryz.underlying22 eU8 (.slice A' j c') j (u8s (Ch.piece key p j)) rr (by exact zaf HOW.out HB3.out) (some ⟨g,f,none⟩) (64-f) (c3-f) (u8s ((bl.drop f).take (64-f))) rr (by exact HR3.out.toS) (zac _) om om om ?_;intro A4 c4 w4 hown4 hc4 hg4 hat4;have HO4:=qh hown4;rw[←zad,←HSTEP.out]at HO4;have HZ4:=qh (((HZ.out.below HB3.out HZ.out.lt).grown hg4 (fun e=>by have:=(HOW.out.lt _ e.symm).1;omega)));have HE4:=qh ((HBE.out.trans (HB3.out.mono HBE.out.size)).grown hg4 (Nat.le_trans HBE.out.size HB3.out.size) (fun k hk=>by have:=(HOW.out.lt k hk).1;omega));clear hown4 hg4 hat4))
      go_roundg (n-(j+(64-f)))
      case measure=>have:=HGK.out;omega
      case rel=>exact⟨j+(64-f),m+(64-f),by omega,rfl,by have:=HMJ.out;omega,by go_num,⟨A4,c4,rfl,by omega,HO4.out⟩,HZ4.out,HE4.out⟩
  · obtain rfl:j=n:=om
    have hlt2:¬(j:Int)<(j:Int):=om;have HOW:=qh (za7 hown (base':=w.heap.size) om);clear hown
    go_wp2_with fail
    go_ret;exact⟨A',c',rfl,hc',HOW.out,hB⟩
theorem zic(A:Option Addr)(c:Nat)(key:List UInt8)(n:Nat)(w:World)(h:Rd w A 32 (u8s key))(hn:n≤65536):
 Calls Tryz.prog 130 #[.slice A 32 c,.int .i64 n] w fun e w'=>∃A' c',e=.returned (.tuple #[.slice A' n c',.int .i64 0])∧n≤c'∧w'.ownsRow w.heap.size 5 1 (.slice A' n c') n (u8s (Ch.piece key 0 n))∧Below w.heap.size w w':=by
 have HP:=qh (zkt A c key 0 n w h om om);clear h;have hn0:¬(n:Int)<0:=om;have hn1:¬(65536:Int)<(n:Int):=om
 go_enter Tryz.func130, Tryz.ntmps130
 go_wp2_with (go_at_call 140;refine HP.out.mono ?_;rintro e w1 ⟨A',c',rfl,hc,hown,hB⟩;have HO:=qh hown;clear hown)
 go_ret2;exact⟨A',c',rfl,hc,HO.out,hB⟩
section
theorem zhn(sz:Nat)(v:Value)(h:0<sz)(N:Nat):madeCells (List.replicate sz v).toArray N=(rep N v).toArray:=by
 unfold madeCells rep
 apply Array.ext'
 simp only[Array.toList_map,Array.toList_range,List.size_toArray,List.length_replicate]
 apply List.ext_getElem?
 intro i;rw[List.getElem?_map,List.getElem?_replicate]
 by_cases hi:i<N
 · have hm:i%sz<sz:=Nat.mod_lt _ h
   rw[List.getElem?_range hi,if_pos hi]
   simp[hm]
 · rw[if_neg hi,List.getElem?_eq_none (by simpa using hi)]
   rfl
section
variable{P:Program}{w:World}{ops:Array Oper}{rest:List Oper}{o:Oper}{a:Act}{K:Act→World→Prop}{Q:Exit→Act→World→Prop}
theorem zsh(x y:Operand)(t:TypeId)(ho:o.op=.makeSlice t x y)(e:TypeId)(z:Value)(bytes sz:Nat)(z0:Value)(ht:P.underlying t=some (.slice e))(hi:(P.info? e).map (fun i=>(i.zero,i.size,i.bytes))=some (some z,sz,bytes))(hz:z.cells=(List.replicate sz z0).toArray)(hsz:0<sz)
 (kl kc:IntKind) (ln lc:Int) (hx:a.eval x=.int kl ln) (hy:a.eval y=.int kc lc) (n c:Nat) (hn:ln=n) (hc:lc=c) (hnc:n≤c) (hbytes:bytes*c≤281474976710656) (h63:c≤140737488355328)
 (h:∀w',Blk w' w.heap.size e (rep (c*sz) z0)→w.grownBy w' none→w'.heap.size=w.heap.size+1→K (a.put o.dst (.slice (some ⟨w.heap.size,0,none⟩) n c)) w'):o.wp P a w K Q:=by
 subst hn;subst hc
 cases hq:P.info? e with
 | none=>simp[hq]at hi
 | some i =>
  simp[hq]at hi
  obtain⟨hz0,hz1,hz2⟩:=hi;subst hz2
  have hr:=run_make (P:=P) w t e i z ht hq hz0 kl kc n c om om (by
   have h:((i.bytes*c:Nat):Int)≤281474976710656:=om
   rwa [Int.natCast_mul]at h) om
  rw[hz1,hz,zhn _ _ hsz]at hr;simp only[Int.toNat_natCast]at hr;refine zci (v:=.slice (some ⟨w.heap.size,0,none⟩) n c) ?_ (h (w.alloc (.cells (rep (c*sz) z0).toArray e)) (Blk.new' rfl rfl) (World.grownBy_alloc w _ none) sy)
  unfold execOp
  simp only[ho,hx,hy,Sem.run_bind,hr,Sem.run_pure,Result.andThen_ok]
theorem zfu(hgd:o.guard=none)(x y:Operand)(t:TypeId)(ho:o.op=.makeSlice t x y)(e:TypeId)(z:Value)(bytes sz:Nat)(z0:Value)(ht:P.underlying t=some (.slice e))(hi:(P.info? e).map (fun i=>(i.zero,i.size,i.bytes))=some (some z,sz,bytes))(hz:z.cells=(List.replicate sz z0).toArray)(hsz:0<sz)
 (kl kc:IntKind) (ln lc:Int) (hx:a.eval x=.int kl ln) (hy:a.eval y=.int kc lc) (n c:Nat) (hn:ln=n) (hc:lc=c) (hnc:n≤c) (hbytes:bytes*c≤281474976710656) (h63:c≤140737488355328)
 (h:∀w',Blk w' w.heap.size e (rep (c*sz) z0)→w.grownBy w' none→w'.heap.size=w.heap.size+1→wpList P ops Q rest (a.put o.dst (.slice (some ⟨w.heap.size,0,none⟩) n c)) w'):wpList P ops Q (o :: rest) a w :=
 zby hgd fun _ hK=>zsh x y t ho e z bytes sz z0 ht hi hz hsz kl kc ln lc hx hy n c hn hc hnc hbytes h63 fun w' h1 h2 h3=>hK _ _ (h w' h1 h2 h3)
end
theorem zi4(w:World)(T:ByteArray):∃(c:Nat) (w':World),(convert 9 22 (.string T)).run Tryz.prog w=.ok (.slice (some ⟨w.heap.size,0,none⟩) T.size c) w'∧T.size≤c∧Hid (Rd w' (some ⟨w.heap.size,0,none⟩) T.size (u8s T.data.toList))∧Hid (Below w.heap.size w w'):=by
 refine⟨_,_,Lib.run_convert_string_bytes w _ _ _ T Tryz.underlying9 Tryz.underlying22 Tryz.underlying5,grownCap_ge _ _ _ _,?_,Lib.bytesWorld_below _ _ _⟩;refine⟨by simp[u8s],fun h=>⟨w.heap.size,0,rfl,by rw[Lib.bytesWorld_size];omega,fun j u hu=>?_⟩⟩;rw[u8s_getElem?]at hu;rw[Option.map_eq_some_iff]at hu;obtain⟨x,hx,rfl⟩:=hu;have hj:j<T.size:=by have:=(gi9.1 hx).1;simpa using this
 rw[Nat.zero_add,Lib.bytesWorld_cell w _ T j hj];rw[gd9,hx]
 rfl
end
theorem zc4{w w':World}{base n g:Nat}{e:TypeId}{size:Nat}{v:Value}{xs:List Value}(h:w.ownsRow base e size v n xs)(ho:Only w w' g)(hne:∀k,v.ownBlock=some k→k≠g):w'.ownsRow base e size v n xs:=by
 refine h.kept ho.grown ?_
 cases hv:v.ownBlock with
 | none=>exact .inl rfl
 | some k=>exact .inr (fun e=>hne k hv (by injection e))
theorem SlB.nil(w:World):SlB w (.slice none 0 0) []:=⟨_,_,_,rfl,lr,Rd.nil _ _⟩
theorem zo3(A:Option Addr)(n c:Nat)(k:List UInt8)(A2:Option Addr)(n2 c2:Nat)(ls:List (List UInt8))(w:World)(h:Rd w A n (u8s k))(hc:n≤c)(hn:n≤1000000000)(h2:RdB w A2 n2 ls)(hn2:n2≤1000000)(hl:ls.flatten.length≤10000000):
 Calls Tryz.prog 163 #[.slice A n c,.int .i64 32,.slice A2 n2 c2] w fun e w'=>∃g,e=.returned (.tuple #[.slice (some ⟨g,0,none⟩) 32 32,.int .i64 0])∧w.heap.size≤g∧Rd w' (some ⟨g,0,none⟩) 32 (u8s (Wd.expand k ls.flatten))∧Below w.heap.size w w':=by
 obtain⟨J,hJ⟩:∃J,ls.flatten=J:=⟨_,rfl⟩;obtain⟨L,hL⟩:∃L,J.length=L:=⟨_,rfl⟩;rw[hJ,hL]at hl;rw[hJ];have HJN:=qh (zd2 A2 n2 c2 ls w h2 om J L hJ hL om)
 have HTG:Hid (∀(W:World) A4 c4,Rd W A n (u8s k)→Rd W A4 L (u8s J)→L≤c4→Calls Tryz.prog 127 #[.slice A n c,.slice (some ⟨W.heap.size+1,0,none⟩) 3 3] ((W.alloc (.cells #[.int .u8 1] 5)).alloc (.cells #[.slice none 0 0,.slice A4 L c4,.slice (some ⟨W.heap.size,0,none⟩) 1 1] 22)) fun e w'=>e=.returned (.agg (u8s (Wd.expand k J)).toArray)∧Below (W.heap.size+2) ((W.alloc (.cells #[.int .u8 1] 5)).alloc (.cells #[.slice none 0 0,.slice A4 L c4,.slice (some ⟨W.heap.size,0,none⟩) 1 1] 22)) w'):=fun W A4 c4 h1 hr hcc=>by
  have hb4:Blk (W.alloc (.cells #[.int .u8 1] 5)) W.heap.size 5 (u8s [1]):=Blk.new' rfl rfl;have hb3:Blk ((W.alloc (.cells #[.int .u8 1] 5)).alloc (.cells #[.slice none 0 0,.slice A4 L c4,.slice (some ⟨W.heap.size,0,none⟩) 1 1] 22)) (W.heap.size+1) 22 [.slice none 0 0,.slice A4 L c4,.slice (some ⟨W.heap.size,0,none⟩) 1 1]:=Blk.new' sy rfl;have:=zjb A n c k (some ⟨W.heap.size+1,0,none⟩) 3 3 [[],J,[1]] _ ((h1.alloc _).alloc _) hc hn (RdB.of_blk (ls:=[[],J,[1]]) hb3 ⟨SlB.nil _,.of_rd ((hr.alloc _).alloc _) hcc,.of_blk (hb4.alloc _) 0 1 1 [1] (by simp[zaa]) om rfl,trivial⟩) om (by simp[hL];omega)
  simpa[Wd.expand] using this
 have HL32:Hid ((u8s (Wd.expand k J)).length=32):=by show _=_;rw[zaa,Wd.expand_len]
 have HXL:Hid ((Wd.expand k J).length=32):=Wd.expand_len k J;have H1:Hid (∀v∈u8s (Wd.expand k J),v.oneCell'=true):=zac _;have HI2:Hid ((Tryz.prog.info? 23).map (·.size)=some (u8s (Wd.expand k J)).length):=by rw[zaa,Wd.expand_len];exact hd24
 obtain⟨X,hX⟩:=ex9 (Wd.expand k J);rw[←hX]at HTG HL32 H1 HI2 HXL ⊢;obtain⟨U,hU⟩:=ex9 (u8s X);rw[←hU]at HTG HL32 H1 HI2;have HU:=qh hU;have HR:=qh h;clear h h2 hJ hL hX hU
 go_enter Tryz.func163, Tryz.ntmps163
 go_wp2_with (first
  | (go_at_call 42;(with_reducible refine HJN.out.mono ?_);rintro e w1 ⟨A3,c3,rfl,hc3,hown3,hB1⟩;have HJ1:=qh (Rd.of_own hown3);have HB1:=qh hB1;clear hown3 hB1)
  | (refine zak rfl (.const (.int .i64 0)) (.tmp 22) 22 rfl 5 (.int .u8 0) 1 Tryz.underlying22 iU8 rfl .i64 .i64 0 64 rr rr 0 64 rfl rfl om om om ?_;intro w2 hb2 hg2 hs2;have HO2:=qh (show w2.ownsRow w.heap.size 5 1 (.slice (some ⟨w1.heap.size,0,none⟩) 0 64) 0 (u8s []) from (by have h5:=zbe hb2 HB1.out.size 0 64 1 om (by simp[za8]) om;simpa[u8s] using h5));have HJ2:Hid (Rd w2 A3 L (u8s J)):=HJ1.out.below (zae hg2);have HB2:Hid (Below w.heap.size w w2):=HB1.out.trans ((zae hg2).mono HB1.out.size);clear hb2 hg2 hs2))
 go_loopg [9,10,11] 1 (fun kk v la q wr=>Below w.heap.size w wr∧((kk=1∧v=.slice (some ⟨w1.heap.size,0,none⟩) 0 64∧la=.slice none 0 0∧q=.int .i64 1∧Rd wr A3 L (u8s J)∧wr.ownsRow w.heap.size 5 1 (.slice (some ⟨w1.heap.size,0,none⟩) 0 64) 0 (u8s [])) ∨
   (kk=0∧q=.int .i64 2∧∃A' c',v=.slice A' 32 c'∧32≤c'∧wr.ownsRow w.heap.size 5 1 (.slice A' 32 c') 32 (u8s X))))
 case atStart=>exact⟨HB2.out,.inl ⟨rfl,rfl,rfl,rfl,HJ2.out,HO2.out⟩⟩
 case round =>
  clear HJ1 HB1 HO2 HJ2 HB2;obtain⟨hB,⟨hgk,rfl,rfl,rfl,hj,hown⟩|⟨hgk,rfl,A',c',rfl,hc',hown⟩⟩:=hrel
  · have HGK:=qh hgk
    have HJR:=qh hj;have HOW:=qh hown;have HBE:=qh hB;clear hgk hj hown hB
    go_wp2_with (first
     | (go_at_call 127;(with_reducible refine(HTG.out wr A3 c3 (HR.out.below HBE.out) HJR.out hc3).mono ?_);rintro e w3 ⟨rfl,hB3⟩;have HB3:=qh (((HBE.out.alloc HBE.out.size _).alloc (Nat.le_trans HBE.out.size sy) _).trans (hB3.mono (Nat.le_trans HBE.out.size om)));have HO3:=qh (zaf ((HOW.out.alloc _).alloc _) (show Below ((wr.alloc (.cells #[.int .u8 1] 5)).alloc (.cells #[.slice none 0 0,.slice A3 L c3,.slice (some ⟨wr.heap.size,0,none⟩) 1 1] 22)).heap.size _ _ from (by simpa using hB3)));clear hB3)
     | (refine zab rfl 23 (.tmp 12) (.tmp 37) rfl w3.heap.size U rr rr 23 (u8s (List.replicate 32 0)) (by exact Blk.new' rfl rfl) HI2.out H1.out (by rw[HL32.out];rfl) ?_;intro w4 hb4 ho4;have HB4:=qh (ho4.below (HB3.out.alloc HB3.out.size _) HB3.out.size (Nat.le_trans HB3.out.size sy));have HO4:=qh (zc4 (HO3.out.alloc _) ho4 (fun k hk=>by have h7:=(HO3.out.lt k hk).2;omega));have HR4:Hid (Rd w4 (some ⟨w3.heap.size,0,none⟩) 32 (u8s X)):=(by have h5:=hb4;rw[HU.out]at h5;have h6:=h5.rdAll;rw[HXL.out]at h6;exact h6);clear hb4 ho4)
     | (at_builtin;refine zah rfl (.tmp 39) (.tmp 40) 22 rfl w.heap.size 5 1 1 Tryz.underlying22 eU8 (.slice (some ⟨w1.heap.size,0,none⟩) 0 64) 0 (u8s []) rr (by exact HO4.out) (some ⟨w3.heap.size,0,none⟩) 32 32 (u8s X) rr (by exact HR4.out.toS) (zac _) om om (by exact HB4.out.size) ?_;intro A5 c5 w5 hown5 hc5 hg5 hat5;have HO5:=qh hown5;have HB5:=qh (HB4.out.grown hg5 HB4.out.size (fun g hg=>(HO4.out.lt g hg).1));clear hown5 hg5 hat5))
    go_roundg 0
    case measure=>have:=HGK.out;omega
    case rel=>exact⟨HB5.out,.inr ⟨rfl,rfl,A5,c5,rfl,by omega,HO5.out⟩⟩
  · obtain⟨g,rfl,hg,_,hr⟩:=zb6 hown om
    have HRR:=qh hr;clear hown hr;have hc2:(32:Int)≤(c':Int):=om
    go_wp2_with fail
    go_ret2;exact⟨g,rfl,hg,HRR.out,hB⟩
theorem iA32:(Tryz.prog.info? 23).map (fun i=>(i.zero,i.size,i.bytes))=some (some (.agg (List.replicate 32 (.int .u8 0)).toArray),32,32):=by kernel_rfl
def keysOf(s:List UInt8)(ls:List ByteArray):List UInt8:=ls.flatMap fun l=>Wd.derive s l.data.toList
theorem ziy(s:List UInt8)(ls:List ByteArray):(keysOf s ls).length=ls.length*32:=by
 induction ls with
 | nil=>rfl
 | cons l ls ih=>rw[keysOf,List.flatMap_cons,la9,Wd.derive_len];rw[keysOf]at ih;rw[ih,List.length_cons];omega
theorem zmb(s:List UInt8)(ls:List ByteArray)(i:Nat)(l:ByteArray)(h:ls[i]? = some l):keysOf s (ls.take (i+1))=keysOf s (ls.take i)++Wd.derive s l.data.toList:=by
 unfold keysOf
 rw[List.take_add_one,h,List.flatMap_append]
 simp
def strs(ls:List ByteArray):List Value:=ls.map Value.string
theorem zg6(w:World)(t:TypeId)(cs:List Value)(fz:Nat × Nat):Rd (w.alloc (.cells cs.toArray t fz)) (some ⟨w.heap.size,0,none⟩) cs.length cs :=
 ⟨rfl,fun _=>⟨w.heap.size,0,rfl,by simp,fun j u hu=>by rw[cell_of_row _ w.heap.size (0+j) cs.toArray t fz (heap_alloc_new w _),Nat.zero_add];simpa using hu⟩⟩
theorem zkj{α:Type}(a b c d:List α)(h:c.length=b.length):splice (a++b++d) a.length c=a++c++d:=by
 unfold splice
 rw[as9 a b d,List.take_left,h,←la9,←as9 a b d,List.drop_left,as9]
theorem zwn{α:Type}(a b:Nat)(z:α):rep (a+b) z=rep a z++rep b z:=by unfold rep;rw[List.replicate_append_replicate]
theorem zma(K D:List UInt8)(n i:Nat)(hK:K.length=i*32)(hD:D.length=32)(hi:i<n):splice (u8s K++rep ((n-i)*32) (.int .u8 0)) (i*32) ((u8s D).take 32)=u8s (K++D)++rep ((n-(i+1))*32) (.int .u8 0):=by
 rw[tk (by rw[zaa,hD];exact lr),show(n-i)*32=32+(n-(i+1))*32 by omega,zwn,←as9,zad];have:=zkj (u8s K) (rep 32 (.int .u8 0)) (u8s D) (rep ((n-(i+1))*32) (.int .u8 0)) (by rw[zaa,hD,za8]);rw[zaa,hK]at this;exact this
theorem zi3(A:Option Addr)(n c:Nat)(k:List UInt8)(A2:Option Addr)(n2 c2:Nat)(ls:List ByteArray)(w:World)(h:Rd w A n (u8s k))(hc:n≤c)(hn:n≤1000000)(h2:Rd w A2 n2 (strs ls))(hn2:n2≤1000)(h0:0<n2)(hl:∀l∈ls,l.size≤1000):
 Calls Tryz.prog 138 #[.slice A n c,.slice A2 n2 c2] w fun e w'=>∃g,e=.returned (.slice (some ⟨g,0,none⟩) n2 n2)∧w.heap.size≤g∧Blk w' g 23 (u8s (keysOf k ls))∧Below w.heap.size w w':=by
 have hll:ls.length=n2:=by have:=h2.1;simpa[strs] using this
 have HLL:=qh hll
 have HEX:Hid (∀W A3 (l:ByteArray),l.size≤1000→Rd W A3 32 (u8s (Mc.tag Wd.salt k))→∀A4 c4,RdB W A4 1 [l.data.toList]→Calls Tryz.prog 163 #[.slice A3 32 32,.int .i64 32,.slice A4 1 c4] W fun e w'=>∃g,e=.returned (.tuple #[.slice (some ⟨g,0,none⟩) 32 32,.int .i64 0])∧W.heap.size≤g∧Rd w' (some ⟨g,0,none⟩) 32 (u8s (Wd.derive k l.data.toList))∧Below W.heap.size W w'):=fun W A3 l hsz h1 A4 c4 hr=>by
  have:=zo3 A3 32 32 (Mc.tag Wd.salt k) A4 1 c4 [l.data.toList] W h1 om om hr om (by simp;omega)
  simpa[Wd.derive] using this
 have hxt:(Calls Tryz.prog 162 #[.slice (some ⟨w.heap.size,0,none⟩) 7 7,.slice A n c] (w.alloc (.cells #[.int .u8 115,.int .u8 104,.int .u8 97,.int .u8 108,.int .u8 108,.int .u8 111,.int .u8 116] 5 (7,8))) fun e w'=>e=.returned (.agg (u8s (Mc.tag Wd.salt k)).toArray)∧Below (w.heap.size+1) (w.alloc (.cells #[.int .u8 115,.int .u8 104,.int .u8 97,.int .u8 108,.int .u8 108,.int .u8 111,.int .u8 116] 5 (7,8))) w'):=by
  have:=zmh (some ⟨w.heap.size,0,none⟩) 7 7 Wd.salt A n c k _ (zg6 w 5 (u8s Wd.salt) (7,8)) om om (h.alloc _) hc om;have e7:(w.alloc (.cells (u8s Wd.salt).toArray 5 (7,8))).heap.size=w.heap.size+1:=by simp
  rw[e7]at this;exact this
 have HXT:=qh hxt;clear hxt;have HTL:Hid ((Mc.tag Wd.salt k).length=32):=Mc.tag_len _ _;have HI2:Hid ((Tryz.prog.info? 23).map (·.size)=some (u8s (Mc.tag Wd.salt k)).length):=by rw[zaa,Mc.tag_len];exact hd24
 have HL2:Hid ((u8s (Mc.tag Wd.salt k)).length=(u8s (List.replicate 32 0)).length):=by show _=_;rw[zaa,Mc.tag_len];rfl
 have HO2:Hid (∀v∈u8s (Mc.tag Wd.salt k),v.oneCell'=true):=zac _;obtain⟨X,hX⟩:=ex9 (Mc.tag Wd.salt k);rw[←hX]at HEX HXT HTL HI2 HL2 HO2;obtain⟨U,hU⟩:=ex9 (u8s X);rw[←hU]at HXT HI2 HL2 HO2;have HU:=qh hU;have HR2:=qh h2;have HSZ:=qh hl;have hne:((n2:Int) == 0)=false:=by rw[beq_eq_false_iff_ne];omega
 have kc:=fun(w:World) (C:Array Value) (n c:Nat)=>Lib.run_convert_bytes_const (P:=Tryz.prog) w 22 5 C n c Tryz.underlying22 Tryz.underlying5
 clear h h2 hll hX hU hl
 go_enter Tryz.func138, Tryz.ntmps138
 go_wp2_with (first
  | (go_at_call 162;(with_reducible refine HXT.out.mono ?_);rintro e w1 ⟨rfl,hB1⟩;have HB1:=qh (((Below.refl _ w).alloc lr _).trans (hB1.mono (Nat.le_succ _)));clear hB1)
  | (refine zab rfl 23 (.tmp 5) (.tmp 17) rfl w1.heap.size U rr rr 23 (u8s (List.replicate 32 0)) (by exact Blk.new' rfl rfl) HI2.out HO2.out HL2.out ?_;intro w2 hb2 ho2;have HB2:=qh (ho2.below (HB1.out.alloc HB1.out.size _) HB1.out.size (Nat.le_trans HB1.out.size sy));have HK2:Hid (Blk w2 w1.heap.size 23 (u8s X)):=(by rw[←HU.out];exact hb2);clear hb2 ho2)
  | (refine zfu rfl (.tmp 19) (.tmp 19) 60 rfl 23 (.agg (List.replicate 32 (.int .u8 0)).toArray) 32 32 (.int .u8 0) Tryz.underlying60 iA32 rfl om .i64 .i64 (n2:Int) (n2:Int) rr rr n2 n2 rfl rfl om om om ?_;intro w3 hb3 hg3 hs3;have HK3:=qh (HK2.out.below (zae hg3) HK2.out.lt);have HB3:=qh (HB2.out.trans ((zae hg3).mono HB2.out.size));have HZ3:Hid (Blk w3 w2.heap.size 23 (u8s (keysOf k (ls.take 0))++rep ((n2-0)*32) (.int .u8 0))):=hb3;clear hb3 hg3 hs3))
 have hg12:w1.heap.size<w2.heap.size:=HK2.out.lt;have hgb:w.heap.size≤w1.heap.size:=HB1.out.size;clear HB1 HB2 HK2 kc;generalize w1.heap.size=ga at *;generalize w2.heap.size=gb at *
 go_loopg [23] n2 (fun kk q wr=>∃i:Nat,i≤n2∧kk=n2-i∧q=.int .i64 i∧Blk wr gb 23 (u8s (keysOf k (ls.take i))++rep ((n2-i)*32) (.int .u8 0))∧Blk wr ga 23 (u8s X)∧Below w.heap.size w wr)
 case atStart=>exact⟨0,by omega,rfl,rfl,HZ3.out,HK3.out,HB3.out⟩
 case round =>
  clear HZ3 HK3 HB3;obtain⟨i,hi,hgk,rfl,hz,hk,hB⟩:=hrel;have HGK:=qh hgk;clear hgk
  by_cases hlt:i<n2
  · have hlt2:(i:Int)<(n2:Int):=om
    obtain⟨l,hx⟩:∃l,ls[i]? = some l:=⟨_,ge9 (by rw[HLL.out];exact hlt)⟩;have hlz:l.size≤1000:=HSZ.out l (mg9 hx);have HKS:=qh (zmb k ls i l hx);obtain⟨b,off,u,rfl,hbl,HX,hcl⟩:=(HR2.out.below hB).at_ hlt;have hu:u=.string l:=by have:=HX.out;unfold strs at this;rw[List.getElem?_map,hx]at this;injection this with this;exact this.symm
    subst hu;obtain⟨c5,w5,hcv,hc5,HRC,HBC⟩:=zi4 wr l;have hkl:=ziy k (ls.take i);rw[List.length_take,HLL.out,Nat.min_eq_left hi]at hkl;have HKL:=qh hkl;have HEXw:Hid (∀W c4,Rd W (some ⟨ga,0,none⟩) 32 (u8s X)→RdB W (some ⟨w5.heap.size,0,none⟩) 1 [l.data.toList]→Calls Tryz.prog 163 #[.slice (some ⟨ga,0,none⟩) 32 32,.int .i64 32,.slice (some ⟨w5.heap.size,0,none⟩) 1 c4] W fun e w'=>∃g,e=.returned (.tuple #[.slice (some ⟨g,0,none⟩) 32 32,.int .i64 0])∧W.heap.size≤g∧Rd w' (some ⟨g,0,none⟩) 32 (u8s (Wd.derive k l.data.toList))∧Below W.heap.size W w'):=fun W c4 h1 h2=>HEX.out W _ l hlz h1 _ c4 h2
    have HZ:=qh hz;have HK:=qh hk;have HBE:=qh hB;have hs5:=HBC.out.size;have HRB:Hid (RdB (w5.alloc (.cells #[.slice (some ⟨wr.heap.size,0,none⟩) l.size c5] 22)) (some ⟨w5.heap.size,0,none⟩) 1 [l.data.toList]):=RdB.of_blk (ls:=[l.data.toList]) (Blk.new' (cs:=[.slice (some ⟨wr.heap.size,0,none⟩) l.size c5]) rfl rfl) ⟨.of_rd (HRC.out.alloc _) hc5,trivial⟩;have HRK:Hid (Rd (w5.alloc (.cells #[.slice (some ⟨wr.heap.size,0,none⟩) l.size c5] 22)) (some ⟨ga,0,none⟩) 32 (u8s X)):=(by have h5:=(hk.below HBC.out hk.lt).rdAll;rw[HTL.out]at h5;exact h5.alloc _);have HDL:Hid ((Wd.derive k l.data.toList).length=32):=Wd.derive_len _ _;clear hx hkl hz hk hB hlz
    go_wp2_with (first
     | (go_at_call 163;(with_reducible refine(HEXw.out _ _ HRK.out HRB.out).mono ?_);rintro e w6 ⟨g6,rfl,hg6,hr6,hB6⟩;have HR6:=qh hr6;have HB56:=qh (((HBC.out.alloc hs5 _)).trans (hB6.mono (Nat.le_trans hs5 sy)));have HB6:=qh (HBE.out.trans (HB56.out.mono HBE.out.size));have HZ6:=qh (HZ.out.below HB56.out HZ.out.lt);have HK6:=qh (HK.out.below HB56.out HK.out.lt);clear hr6 hB6)
     | (refine za6 rfl (.tmp 39) (.tmp 40) 22 rfl 5 Tryz.underlying22 zbv gb (i*32) 32 32 rr (some ⟨g6,0,none⟩) 32 32 rr 23 _ HZ6.out _ HR6.out (zac _) (by rw[la9,zaa,HKL.out,za8];omega) ?_;intro w7 hb7 ho7))
    have HSP:=qh (zma _ _ n2 i HKL.out HDL.out hlt);have HZ7:=qh hb7;rw[HSP.out,←HKS.out]at HZ7;have HK7:=qh (ho7.blk HK6.out om);have HB7:=qh (ho7.below HB6.out om HB6.out.size);go_roundg (n2-(i+1))
    case measure=>have:=HGK.out;omega
    case rel=>exact⟨i+1,by omega,rfl,by go_num,HZ7.out,HK7.out,HB7.out⟩
  · obtain rfl:i=n2:=om
    have hlt2:¬(i:Int)<(i:Int):=om;have HZ:=qh hz;rw[tk (by rw[HLL.out];exact lr),Nat.sub_self,Nat.zero_mul,show rep 0 (Value.int .u8 0)=[] from rfl,List.append_nil]at HZ;clear hz
    go_wp2_with fail
    go_ret;exact⟨gb,rfl,by omega,HZ.out,hB⟩
end Go.Proofs.YtpgpaenloaphaaaGreat
