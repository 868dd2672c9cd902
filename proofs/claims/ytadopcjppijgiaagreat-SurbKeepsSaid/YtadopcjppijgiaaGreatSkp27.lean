/- Part of the proof. -/
import Derived.Deep.DeepCutAuto
import Derived.Test.YtadopcjppijgiaaGreatSkp26
set_option linter.all false
set_option maxRecDepth 100000
set_option maxHeartbeats 0
namespace Go.Proofs.YtadopcjppijgiaaGreat
open Go.RowKit
section
structure Sp where
 mac:List UInt8
 stream:List UInt8
 pay:List UInt8
 blind:List UInt8
 alpha:List UInt8
 secret:List UInt8
namespace Sp
def bytes(s:Sp):List UInt8:=s.mac++(s.stream++(s.pay++(s.blind++(s.alpha++s.secret))))
def cells(s:Sp):List Value:=u8s s.bytes
def ok(s:Sp):Prop:=s.mac.length=32∧s.stream.length=32∧s.pay.length=32∧s.blind.length=32∧s.alpha.length=32∧s.secret.length=32
theorem bytes_len{s:Sp}(h:s.ok):s.bytes.length=192:=by obtain⟨h1,h2,h3,h4,h5,h6⟩:=h;simp[bytes,h1,h2,h3,h4,h5,h6]
theorem cells_len{s:Sp}(h:s.ok):s.cells.length=192:=by rw[cells,zaa,bytes_len h]
theorem at_mac{s:Sp}(h:s.ok):(s.bytes.drop 0).take 32=s.mac:=by rw[bytes,List.drop_zero,List.take_left' h.1]
theorem at_stream{s:Sp}(h:s.ok):(s.bytes.drop 32).take 32=s.stream:=by rw[bytes,List.drop_left' h.1,List.take_left' h.2.1]
theorem at_alpha{s:Sp}(h:s.ok):(s.bytes.drop 128).take 32=s.alpha:=by
 have e:s.bytes=(s.mac++(s.stream++(s.pay++s.blind)))++(s.alpha++s.secret):=by simp[bytes]
 rw[e,List.drop_left' (by simp[h.1,h.2.1,h.2.2.1,h.2.2.2.1]),List.take_left' h.2.2.2.2.1]
end Sp
theorem Sp.rd{w:World}{g:Nat}{t:TypeId}{s:Sp}(hb:Blk w g t s.cells)(h:s.ok)(o:Nat)(x:List UInt8)(ho:o+32≤192)(hx:(s.bytes.drop o).take 32=x):Rd w (some ⟨g,o,none⟩) 32 (u8s x):=by
 have h5:=hb.rd o 32 (by rw[Sp.cells_len h];exact ho)
 rwa [Sp.cells,za9,zay,hx]at h5
theorem hd69:(Tryz.prog.info? 83).map (·.size)=some 192:=by kernel_rfl
def tagOf(mac:List UInt8)(h:List UInt8):List UInt8:=(Mc.tag mac (h.take 32++(h.drop 48).take 240)).take 16
def fits(s:Sp)(h:List UInt8):Bool:=decide (tagOf s.mac h=(h.drop 32).take 16)
def z288:List UInt8:=List.replicate 288 0
theorem ztt:(u8s z288).length=288:=by rw[zaa,z288,lp9]
theorem zsx(v:Value):Instr.loadAt 83 v=ldAt 83 v:=rfl
attribute [local go_sem ↓] zsy zsx zch
theorem hd_ld{w:World}{g:Nat}{t:TypeId}{C:List Value}(hb:Blk w g t C)(hl:C.length=288):(ldAt 31 (.pointer (some ⟨g,0,none⟩))).run Tryz.prog w=.ok (.agg C.toArray) w :=
 zal hb _ 0 C (by rw[List.drop_zero,tk lr]) _ Tryz.underlying31 rfl (by rw[hl];exact hd34)
theorem sp_ld{w:World}{g:Nat}{t:TypeId}{C:List Value}(hb:Blk w g t C)(hl:C.length=192):(ldAt 83 (.pointer (some ⟨g,0,none⟩))).run Tryz.prog w=.ok (.agg C.toArray) w :=
 zal hb _ 0 C (by rw[List.drop_zero,tk lr]) _ Tryz.underlying83 rfl (by rw[hl];exact hd69)
end
section
theorem zfa{w:World}{A:Option Addr}{n:Nat}{l:List Sp}(h:RdS 192 w A n (l.flatMap Sp.cells))(hs:∀s∈l,s.ok){i:Nat}{s:Sp}(hi:l[i]? = some s)(hn:0<n):
 ∃b r,A=some ⟨b,r,none⟩∧b<w.heap.size∧w.rangeAt b (r+i*192) s.cells:=by
 obtain⟨b,r,e,hb,hc⟩:=h.2 hn;refine⟨b,r,e,hb,fun j v hv=>?_⟩;have h1:=zd1 (f:=Sp.cells) (sz:=192) (fun a ha=>Sp.cells_len (hs a ha)) hi hv;rw[Nat.add_assoc];exact hc _ _ h1
def fil(ss:List Sp):Nat→List UInt8
 | 0=>[]
 | k+1=>Ch.xor (fil ss k++List.replicate 48 0) ((Ch.piece ((ss[k]?.map Sp.stream).getD []) 0 288).drop (288-(48*k+48)))
theorem zkh(ss:List Sp)(k:Nat)(h:k≤5):(fil ss k).length=48*k:=by
 induction k with
 | zero=>rfl
 | succ k ih =>
  have ih:=ih om;rw[fil,Ch.xor_len _ _ (by rw[la9,ih,lp9,List.length_drop,Ch.piece_len];omega),la9,ih,lp9];omega
theorem zon{ss:List Sp}{k:Nat}{s:Sp}(h:ss[k]? = some s):fil ss (k+1)=Ch.xor (fil ss k++List.replicate 48 0) ((Ch.piece s.stream 0 288).drop (288-(48*k+48))):=by rw[fil,h];rfl
theorem Sp.cells_one(s:Sp):∀v∈s.cells,v.oneCell'=true:=zac _
def z48:List UInt8:=List.replicate 48 0
theorem zcSp:Tryz.zeroCells83 = (u8s (List.replicate 192 0)).toArray:=by kernel_rfl
attribute [local go_sem ↓] zsx
theorem zp0(A:Option Addr)(m c:Nat)(ss:List Sp)(w:World)(h:RdS 192 w A (m+1) (ss.flatMap Sp.cells))(hs:∀s∈ss,s.ok)(hl:ss.length=m+1)(hm:m≤4)(hc:m+1≤c):
 Calls Tryz.prog 47 #[.slice A (m+1) c] w fun e w'=>∃A' c',e=.returned (.tuple #[.slice A' (48*m) c',.int .i64 0])∧48*m≤c'∧w'.ownsRow w.heap.size 5 1 (.slice A' (48*m) c') (48*m) (u8s (fil ss m))∧Below w.heap.size w w':=by
 have HR:=qh h;have HS:=qh hs;have HL:=qh hl;obtain⟨b,b1,rfl,hb,_⟩:=h.2 om;have h1:¬((m:Int)+1<1):=om;have h5:¬((5:Int)<(m:Int)+1):=om;have d7:Hid (∀W,(Instr.makeSlice 22 (.int .i64 48) (.int .i64 48)).run Tryz.prog W=.ok (.slice (some ⟨W.heap.size,0,none⟩) 48 48) (W.alloc (.cells (u8s z48).toArray 5))):=fun W=>by kernel_rfl
 have b3:Hid (w.ownsRow w.heap.size 5 1 (.slice none 0 0) 0 (u8s (fil ss 0))):=World.ownsRow_nil _ _ _ _;clear h hs hl
 go_enter Tryz.func47, Tryz.ntmps47
 go_wp2_with fail
 go_loopg [4,24] m (fun kk v q wr=>∃k:Nat,k≤m∧kk=m-k∧q=.int .i64 k∧(∃A' c',v=.slice A' (48*k) c'∧48*k≤c'∧wr.ownsRow w.heap.size 5 1 (.slice A' (48*k) c') (48*k) (u8s (fil ss k)))∧Below w.heap.size w wr)
 case atStart=>exact⟨0,by omega,rfl,rfl,⟨none,0,rfl,by omega,b3.o⟩,Below.refl _ _⟩
 case round =>
  clear b3;obtain⟨k,hk,b6,rfl,⟨A',c',rfl,V,r⟩,hB⟩:=hrel;have d3:=qh b6;clear b6
  by_cases hlt:k<m
  · have b9:(k:Int)<(m:Int):=om
    obtain⟨s,M⟩:∃s,ss[k]? = some s:=⟨_,ge9 (by rw[HL.o];omega)⟩;have G:=HS.o s (mg9 M);obtain⟨b2,o2,e2,f1,b7⟩:=zfa (HR.o.bel hB lr) HS.o M om
    injection e2 with e2
    injection e2 with e2 e3
    subst e2;subst e3;have e6:(ldAt 83 (.pointer (some ⟨b,b1+k*192,none⟩))).run Tryz.prog wr=.ok (.agg s.cells.toArray) wr:=run_loadAt_mid wr b (b1+k*192) 83 s.cells _ b7 Tryz.underlying83 rfl (by rw[Sp.cells_len G];exact hd69);have a0:=qh (zon M);have Y:=zkh ss k om;have b5:=qh (Sp.cells_len G)
    have c1:Hid (∀W,Blk W wr.heap.size 83 s.cells→Calls Tryz.prog 77 #[.slice (some ⟨wr.heap.size,32,none⟩) 32 32,.int .i64 288] W fun e w'=>∃g c',e=.returned (.tuple #[.slice (some ⟨g,0,none⟩) 288 c',.int .i64 0])∧288≤c'∧w'.ownsRow W.heap.size 5 1 (.slice (some ⟨g,0,none⟩) 288 c') 288 (u8s (Ch.piece s.stream 0 288))∧Below W.heap.size W w'):=fun W hb=>by
     refine(zig (some ⟨wr.heap.size,32,none⟩) 32 s.stream 288 W (Sp.rd hb G 32 s.stream om (Sp.at_stream G)) om).mono ?_;rintro e w' ⟨A',c',rfl,V,ho,hB⟩;obtain⟨g,rfl,_⟩:=zco ho om;exact⟨g,c',rfl,V,ho,hB⟩
    have c5:=qh (Sp.cells_one s);have a1:=Ch.piece_len s.stream 0 288;obtain⟨F,hF⟩:=ex9 (fil ss k);rw[←hF]at a0 Y r;obtain⟨S,hS⟩:=ex9 (Ch.piece s.stream 0 288);rw[←hS]at a0 c1 a1;obtain⟨L,hL⟩:=ex9 (48*k+48);obtain⟨D,hD⟩:=ex9 (288-L);rw[←hL,←hD]at a0;have f6:(288:Int)-(L:Int)=(D:Int):=om;have f4:(0:Int)≤(D:Int):=om;have f2:(D:Int)≤288:=om;have b4:288-D=L:=om;have e8:D≤240:=om
    have HJ:Hid (∀(W:World) (gl gz:Nat),Blk W gl 22 [.slice A' (48*k) c',.slice (some ⟨gz,0,none⟩) 48 48]→Rd W A' (48*k) (u8s F)→Blk W gz 5 (u8s z48)→Calls Tryz.prog 36 #[.slice (some ⟨gl,0,none⟩) 2 2] W fun e w'=>∃g c',e=.returned (.slice (some ⟨g,0,none⟩) L c')∧L≤c'∧w'.ownsRow W.heap.size 5 1 (.slice (some ⟨g,0,none⟩) L c') L (u8s (F++List.replicate 48 0))∧Below W.heap.size W w'):=fun W gl gz h1 h2 h3=>by
     refine(zef _ 2 2 [F,List.replicate 48 0] W (RdB.of_blk h1 ⟨.of_rd h2 V,.of_blk h3 0 48 48 z48 (by rw[zaa,z48,lp9];omega) om (by rw[List.drop_zero,tk (by rw[zaa,z48,lp9];omega)]),trivial⟩) om (F++List.replicate 48 0) L sy (by simp[Y,hL]) om).mono ?_;rintro e w' ⟨A2,c2,rfl,a7,ho,hB⟩;obtain⟨g,rfl,_⟩:=zco ho om;exact⟨g,c2,rfl,a7,ho,hB⟩
    have HX:Hid (∀(W:World) (gl g9 g7 c9 c7:Nat),Blk W gl 22 [.slice (some ⟨g9,0,none⟩) L c9,.slice (some ⟨g7,D,none⟩) (288-D) (c7-D)]→Rd W (some ⟨g9,0,none⟩) L (u8s (F++List.replicate 48 0))→L≤c9→Rd W (some ⟨g7,0,none⟩) 288 (u8s S)→288≤c7→Calls Tryz.prog 78 #[.slice (some ⟨gl,0,none⟩) 2 2] W fun e w'=>∃A2 c2,e=.returned (.tuple #[.slice A2 L c2,.int .i64 0])∧L≤c2∧w'.ownsRow W.heap.size 5 1 (.slice A2 L c2) L (u8s (fil ss (k+1)))∧Below W.heap.size W w'):=fun W gl g9 g7 c9 c7 h1 h2 h9 h3 h7=>by
     rw[a0.o];have h8:=zix h3 D (288-D) om;rw[Nat.zero_add,tk (by rw[List.length_drop,a1];omega)]at h8;exact znx _ 2 L (F++List.replicate 48 0) (S.drop D) W (RdB.of_blk h1 ⟨.of_rd h2 h9,.of_rd h8 om,trivial⟩) (by simp[Y,hL]) (by rw[List.length_drop,a1];omega) om
    generalize s.cells=C at *;have a4:=qh r;have HB:=qh hB;have a8:=qh hL;have f5:=qh b4;clear M G b7 Y a1 hF hS r hB hL hD b4;have f0:=d7.o;have a6:=HB.o.size
    go_wp2_with (first
     | (refine zab rfl 83 (.tmp 6) (.tmp 27) rfl wr.heap.size C rr rr 83 (u8s (List.replicate 192 0)) (by exact Blk.new' rfl zcSp) (by rw[b5.o];exact hd69) c5.o (by rw[b5.o];rfl) ?_;intro w1 c0 a3;have e0:=qh (a3.below (HB.o.alloc a6 _) a6 (Nat.le_trans a6 sy));have d8:=qh c0;have c6:=qh (zc5 (a4.o.alloc _) a3 (fun k hk=>by have h9:=(a4.o.lt k hk).2;omega));have f3:=a3.size;clear c0 a3)
     | (go_at_call 77;(with_reducible refine(c1.o _ (by exact d8.o)).mono ?_);rintro e w2 ⟨g2,c2,rfl,a7,E,X⟩;have a5:=qtr e0 X;have d4:=qh (zas c6.o X);have c8:=qh (Rd.of_own E);have e5:=X.size;have f7:¬c2=D:=om;have e7:(D:Int)≤(c2:Int):=om;clear E X)
     | (go_at_call 36;(with_reducible refine(HJ.o _ _ _ (by exact Blk.new' sy rfl) (by exact(((Rd.of_own d4.o).alloc _).alloc _)) (by exact(Blk.new' rfl rfl).alloc _)).mono ?_);rintro e w3 ⟨g3,c3,rfl,d6,J,U⟩;have a2:=qh ((a5.o.alloc a5.o.size _).alloc (Nat.le_trans a5.o.size sy) _ |>.trans (U.mono (Nat.le_trans a5.o.size (by simp;omega))));have d0:=qh (((c8.o.alloc _).alloc _).below U);have e1:=qh (Rd.of_own J);have e4:=U.size;clear J U)
     | (go_at_call 78;(with_reducible refine(HX.o _ _ _ _ _ _ (by exact Blk.new' rfl rfl) (by exact e1.o.alloc _) (by exact d6) (by exact d0.o.alloc _) (by exact a7)).mono ?_);rintro e w4 ⟨A4,c4,rfl,e9,I,a9⟩;have d9:=qh ((a2.o.alloc a2.o.size _).trans (a9.mono (Nat.le_trans a2.o.size sy)));have d5:=qh (zbi I (base':=w.heap.size) (Nat.le_trans a2.o.size sy));clear I a9))
    go_roundg (m-(k+1))
    case measure=>have:=d3.o;omega
    case rel=>exact⟨k+1,by omega,rfl,by go_num,⟨A4,c4,by rw[a8.o];rfl,by have:=a8.o;omega,by have h9:=d5.o;rw[a8.o]at h9;exact h9⟩,d9.o⟩
  · obtain rfl:k=m:=om
    have b9:¬(k:Int)<(k:Int):=om;have a4:=qh r;clear r
    go_wp2_with fail
    go_ret2;exact⟨A',c',rfl,V,a4.o,hB⟩
end
