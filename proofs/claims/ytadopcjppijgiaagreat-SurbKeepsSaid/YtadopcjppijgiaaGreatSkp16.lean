/- Part of the proof. -/
import Derived.Test.YtadopcjppijgiaaGreatSkp14
set_option linter.all false
set_option maxRecDepth 100000
set_option maxHeartbeats 0
namespace Go.Proofs.YtadopcjppijgiaaGreat
open Go.RowKit
def mixed(x y:List UInt8)(i:Nat):List UInt8:=Ch.xor (x.take i) (y.take i)++x.drop i
theorem zlm(x y:List UInt8)(i:Nat)(h:x.length=y.length):(mixed x y i).length=x.length:=by
 unfold mixed
 rw[la9,Ch.xor_len _ _ (by simp[h]),List.length_take,List.length_drop];omega
theorem zln(x y:List UInt8)(i:Nat)(h:x.length=y.length)(hi:i<x.length):(mixed x y i)[i]? = x[i]?:=by
 unfold mixed
 have hl:(Ch.xor (x.take i) (y.take i)).length=i:=by rw[Ch.xor_len _ _ (by simp[h]),List.length_take];omega
 rw[ar9 om,hl,Nat.sub_self,List.getElem?_drop,Nat.add_zero]
theorem zll(x y:List UInt8)(i:Nat)(h:x.length=y.length){a b:UInt8}(ha:x[i]? = some a)(hb:y[i]? = some b):(mixed x y i).set i (a ^^^ b)=mixed x y (i+1):=by
 unfold mixed
 have hi:=(gi9.1 ha).1;have hl:(Ch.xor (x.take i) (y.take i)).length=i:=by rw[Ch.xor_len _ _ (by simp[h]),List.length_take];omega
 have hd:x.drop i=a :: x.drop (i+1):=by
  rw[List.drop_eq_getElem_cons hi];congr 1;have:=(gi9.1 ha).2;exact this
 rw[List.set_append_right _ _ om,hl,Nat.sub_self,hd,List.set_cons_zero,List.take_add_one,List.take_add_one,ha,hb]
 unfold Ch.xor
 rw[List.zipWith_append (by simp[h])]
 simp
theorem zlo(x y:List UInt8)(h:x.length=y.length):mixed x y x.length=Ch.xor x y:=by
 unfold mixed
 rw[tk lr,tk om,List.drop_of_length_le lr,List.append_nil]
theorem zyz(r post:List Value)(m:List UInt8)(o i:Nat)(ho:r.length=o){a:UInt8}(ha:m[i]? = some a):(r++(u8s m++post))[o+i]? = some (.int .u8 a.toNat):=by
 have hi:=(gi9.1 ha).1;rw[ar9 om,show o+i-r.length=i by omega,ll9 (by rw[zaa];exact hi),u8s_getElem?,ha]
 rfl
theorem zyy(r post:List Value)(m:List UInt8)(o i:Nat)(ho:r.length=o)(hi:i<m.length)(a:UInt8):(r++(u8s m++post)).set (o+i) (.int .u8 a.toNat)=r++(u8s (m.set i a)++post):=by
 rw[List.set_append_right _ _ om,show o+i-r.length=i by omega,List.set_append_left _ _ (by rw[zaa];exact hi),za5]
theorem zmv(g o n c:Nat)(t:TypeId)(r post:List Value)(x y:List UInt8)(B:Option Addr)(d:Nat)(w:World)(hb:Blk w g t (r++(u8s x++post)))(ho:r.length=o)(hx:x.length=n)(hr:Rd w B n (u8s y))(hB:0<n→∀ad:Addr,B=some ad→ad.block≠g)(hn:n≤1000000):
 Calls Tryz.prog 106 #[.slice (some ⟨g,o,none⟩) n c,.slice B n d] w fun e w'=>e=.returned (.tuple #[])∧Blk w' g t (r++(u8s (Ch.xor x y)++post))∧Wrote g w w':=by
 have D:y.length=n:=hr.len;have A:Hid (x.length=y.length):=by rw[hx,D];exact rfl
 have HX:=qh hx;have HO:=qh ho;have HY:=qh D;have HB:=qh hB;have HE:Hid (mixed x y n=Ch.xor x y):=by rw[←hx];exact zlo x y A.o
 have E:Hid (Blk w g t (r++(u8s (mixed x y 0)++post))):=hb;have HR:=qh hr;clear hb ho hx hr hB D
 go_enter Tryz.func106, Tryz.ntmps106
 go_wp2_with fail
 go_loopg [8] n (fun k q wr=>∃i:Nat,i≤n∧k=n-i∧q=.int .i64 i∧Blk wr g t (r++(u8s (mixed x y i)++post))∧Wrote g w wr)
 case atStart=>exact⟨0,by omega,rfl,rfl,E.o,Wrote.refl _ _⟩
 case round =>
  clear E;obtain⟨i,hi,G,rfl,hb,hW⟩:=hrel;have V:=qh G;clear G
  by_cases hlt:i<n
  · have M:(i:Int)<(n:Int):=om
    obtain⟨b,a2,v,rfl,a0,HV,cv⟩:=(HR.o.wrote hW HB.o).u8 hlt;have a1:b≠g:=HB.o om _ rfl;obtain⟨u,hu⟩:∃u,x[i]? = some u:=⟨_,ge9 (by rw[HX.o];exact hlt)⟩;have I:=zlm x y i A.o;have cu:=(hb.cell (o+i)).trans (zyz r post _ o i HO.o ((zln x y i A.o (by rw[HX.o];exact hlt)).trans hu));have fu:=hb.frozen (o+i)
    have Y:Hid ((r++(u8s (mixed x y i)++post)).set (o+i) (.int .u8 (u ^^^ v).toNat)=r++(u8s (mixed x y (i+1))++post)):=by
     show _=_
     rw[zyy r post _ o i HO.o (by rw[I,HX.o];exact hlt),zll x y i A.o hu HV.o]
    have J:=qh (hb.set_ (o+i) (.int .u8 (u ^^^ v).toNat));rw[Y.o]at J;have U:=qh (hW.setCell (o+i) (.int .u8 (u ^^^ v).toNat));have X:=qh (zgw u v);have a3:=hb.lt;clear hb I hu
    go_wp2_with fail
    rw[X.o];go_roundg (n-(i+1))
    case measure=>have:=V.o;omega
    case rel=>exact⟨i+1,by omega,rfl,by go_num,J.o,U.o⟩
  · obtain rfl:i=n:=om
    have M:¬(i:Int)<(i:Int):=om;rw[HE.o]at hb
    go_wp2_with fail
    go_end0
    exact⟨rfl,hb,hW⟩
theorem zfm(A:Option Addr)(n c:Nat)(w:World)(h1:32≤n)(h2:n≤4096):Calls Tryz.prog 86 #[.slice A n c] w fun e w'=>e=.returned (.bool true)∧w=w':=by
 have i1:(32:Int)≤(n:Int):=om;have i2:(n:Int)≤4096:=om
 go_enter Tryz.func86, Tryz.ntmps86
 go_wp2;go_ret;exact⟨rfl,rfl⟩
theorem zvz(A B:Option Addr)(n c d:Nat)(w:World)(h1:32≤n)(h2:n≤4096):Calls Tryz.prog 83 #[.slice B 32 d,.slice A n c] w fun e w'=>e=.returned (.bool true)∧w=w':=by
 go_enter Tryz.func83, Tryz.ntmps83
 go_wp2_with (go_at_call 86;refine(zfm A n c _ h1 h2).mono ?_;rintro e w' ⟨rfl,rfl⟩)
 go_ret;exact⟨rfl,rfl⟩
theorem Below.wroteOf{w w1 w2:World}{g:Nat}(hb:Below w.heap.size w w1)(h:Wrote g w1 w2):Wrote g w w2:=Below.wrote hb h
theorem zqk(G N c:Nat)(t:TypeId)(rest:List Value)(k b:List UInt8)(r:Nat)(w:World)(hb:Blk w G t (u8s b++rest))(hk:k.length=32)(hN:b.length=N)(d3:32<N)(d6:N≤100000)(hc:N≤c)(hr:r=2∨r=4):
 Calls Tryz.prog 85 #[.slice (some ⟨G,0,none⟩) N c,.agg (u8s k).toArray,.int .i64 r] w fun e w'=>e=.returned (.tuple #[])∧Blk w' G t (u8s (Wd.turn k b r)++rest)∧Wrote G w w':=by
 have HT:Hid (Wd.turn k b r=Ch.xor (b.take 32) (Mc.tag k (b.drop 32))++b.drop 32):=by show _=_;unfold Wd.turn;rw[if_pos hr]
 have b4:u8s b++rest=[]++(u8s (b.take 32)++(u8s (b.drop 32)++rest)):=by rw[List.nil_append,←as9,←zae,List.take_append_drop]
 have A:(b.take 32).length=32:=by rw[List.length_take];omega
 have D:(b.drop 32).length=N-32:=by rw[List.length_drop,hN]
 rw[b4]at hb
 have b2:Hid (∀W,Blk W G t ([]++(u8s (b.take 32)++(u8s (b.drop 32)++rest)))→Rd W (some ⟨G,32,none⟩) (N-32) (u8s (b.drop 32))):=fun W h=>by
  have:=h.rd 32 (N-32) (by simp[zaa,A,D]);rw[List.nil_append,List.drop_append_of_le_length (by rw[zaa,A];exact lr),List.drop_of_length_le (by rw[zaa,A];exact lr),List.nil_append,List.take_append_of_le_length (by rw[zaa,D];exact lr),tk (by rw[zaa,D];exact lr)]at this;exact this
 obtain⟨lf,a2⟩:=ex9 (b.take 32);obtain⟨rt,a6⟩:=ex9 (b.drop 32);rw[←a2,←a6]at HT hb b2;rw[←a2]at A;rw[←a6]at D
 have a5:Hid (∀W K,Rd W (some ⟨K,0,none⟩) 32 (u8s k)→Rd W (some ⟨G,32,none⟩) (N-32) (u8s rt)→Calls Tryz.prog 82 #[.slice (some ⟨K,0,none⟩) 32 32,.slice (some ⟨W.heap.size,0,none⟩) 1 1] (W.alloc (.cells #[.slice (some ⟨G,32,none⟩) (N-32) (c-32)] 22)) fun e w'=>e=.returned (.agg (u8s (Mc.tag k rt)).toArray)∧Below (W.heap.size+1) (W.alloc (.cells #[.slice (some ⟨G,32,none⟩) (N-32) (c-32)] 22)) w'):=fun W K h1 h2=>by
  have:=zjl (some ⟨K,0,none⟩) 32 32 k (some ⟨W.heap.size,0,none⟩) 1 1 [rt] _ (h1.alloc _) om om (RdB.of_blk (ls:=[rt]) (Blk.new' (cs:=[.slice (some ⟨G,32,none⟩) (N-32) (c-32)]) (t:=22) rfl rfl) ⟨.of_rd (h2.alloc _) om,trivial⟩) om (by simp;omega)
  simpa using this
 have b6:Hid ((Mc.tag k rt).length=32):=Mc.tag_len _ _;have M:Hid ((Tryz.prog.info? 27).map (·.size)=some (u8s (Mc.tag k rt)).length):=by rw[zaa,Mc.tag_len];exact hd24
 have a0:Hid ((u8s (Mc.tag k rt)).length=(u8s (List.replicate 32 0)).length):=by show _=_;rw[zaa,Mc.tag_len];rfl
 have a1:Hid (∀v∈u8s (Mc.tag k rt),v.oneCell'=true):=zac _;obtain⟨X,hX⟩:=ex9 (Mc.tag k rt);rw[←hX]at a5 b6 M a0 a1 HT;obtain⟨S,hS⟩:=ex9 (u8s X);rw[←hS]at a5 M a0 a1;have HS:=qh hS;have a7:=qh hb;have hG:G<w.heap.size:=hb.lt;have c0:=qh A;have V:Hid (Rd (w.alloc (.cells (u8s k).toArray 27)) (some ⟨w.heap.size,0,none⟩) 32 (u8s k)):=by have h5:=(Blk.new w 27 (u8s k)).rdAll;rw[hk]at h5;exact h5
 obtain⟨U,hU⟩:=ex9 (u8s k);rw[←hU]at V ⊢;have d7:(32:Int)≤(c:Int):=om;have d4:¬c=32:=om;have d0:(32:Int)≤(N:Int):=om;have c6:=qh hU;clear b4 a2 a6 D A hX hS hU hb hk
 have c8:(((r:Int) == 2)=true∧(((r:Int) == 4)=false))∨(((r:Int) == 2)=false∧((r:Int) == 4)=true):=by
  rcases hr with rfl|rfl
  · exact .inl ⟨rfl,rfl⟩
  · exact .inr ⟨rfl,rfl⟩
 clear hr
 go_enter Tryz.func85, Tryz.ntmps85
 go_wp2_with fail
 go_quiet (fail)
 have I:Hid (Blk ((w.alloc (.cells U.toArray 27)).drewN nq) G t ([]++(u8s lf++(u8s rt++rest)))):=(a7.o.alloc _).drewN nq;have a8:Hid (Rd ((w.alloc (.cells U.toArray 27)).drewN nq) (some ⟨w.heap.size,0,none⟩) 32 (u8s k)):=by rw[←c6.o];exact V.o.drewN nq
 have J:Hid (Below w.heap.size w ((w.alloc (.cells U.toArray 27)).drewN nq)):=Below.drewM ((Below.refl _ _).alloc lr _) nq;have c4:w.heap.size<((w.alloc (.cells U.toArray 27)).drewN nq).heap.size:=by show w.heap.size<(w.alloc (.cells U.toArray 27)).heap.size;simp
 obtain⟨w1,b1⟩:=ex9 ((w.alloc (.cells U.toArray 27)).drewN nq);rw[←b1]at I a8 J c4 ⊢;clear b1 a7 V;have c3:=qh (b2.o _ I.o)
 rcases c8 with ⟨b7,c9⟩|⟨b7,c9⟩
 all_goals
   go_wp2_with (first
    | (go_at_call 82;(with_reducible refine(a5.o w1 _ a8.o c3.o).mono ?_);rintro e w2 ⟨rfl,a3⟩;have E:=qh ((J.o.alloc J.o.size _).trans (a3.mono (Nat.le_trans J.o.size (Nat.le_succ _))));have a4:=qh ((I.o.alloc _).below a3 (Nat.lt_succ_of_lt I.o.lt));clear a3)
    | (refine zab rfl 27 (.tmp 8) (.tmp 24) rfl w2.heap.size S rr rr 27 (u8s (List.replicate 32 0)) (by exact Blk.new' rfl rfl) M.o a1.o a0.o ?_;intro w3 b5 Y;have c2:=qh (Y.below (E.o.alloc E.o.size _) E.o.size (Nat.le_trans E.o.size sy));have c1:=qal Y a4 (by have:=a4.o.lt;omega);have d5:=a4.o.lt;have b9:Hid (Rd w3 (some ⟨w2.heap.size,0,none⟩) 32 (u8s X)):=(by have h5:=b5;rw[HS.o]at h5;have h6:=h5.rdAll;rw[b6.o]at h6;exact h6);clear b5 Y)
    | (go_at_call 106;(with_reducible refine(zmv G 0 32 c t [] (u8s rt++rest) lf X (some ⟨w2.heap.size,0,none⟩) 32 w3 c1.o rfl c0.o b9.o (fun _ ad e=>by injection e with e;subst e;show w2.heap.size≠G;omega) om).mono ?_);rintro e w4 ⟨rfl,b3,a9⟩;have c7:=qh b3;have c5:=qh (Below.wroteOf c2.o a9);clear b3 a9))
   exact bodyPost_ret (results_none rfl _ _ _) rfl ⟨rfl,by rw[HT.o,zae,as9];exact c7.o,c5.o⟩
theorem zt2(G N c:Nat)(t:TypeId)(rest:List Value)(k b:List UInt8)(r:Nat)(w:World)(hb:Blk w G t (u8s b++rest))(hk:k.length=32)(hN:b.length=N)(e0:32<N)(d6:N≤65536)(hc:N≤c)(hr:¬(r=2∨r=4)):
 Calls Tryz.prog 85 #[.slice (some ⟨G,0,none⟩) N c,.agg (u8s k).toArray,.int .i64 r] w fun e w'=>e=.returned (.tuple #[])∧Blk w' G t (u8s (Wd.turn k b r)++rest)∧Wrote G w w':=by
 have b4:u8s b++rest=u8s (b.take 32)++(u8s (b.drop 32)++rest):=by rw[←as9,←zae,List.take_append_drop]
 have D:(b.take 32).length=32:=by rw[List.length_take];omega
 have E:(b.drop 32).length=N-32:=by rw[List.length_drop,hN]
 have HT:Hid (Wd.turn k b r=b.take 32++Ch.xor (b.drop 32) (Ch.piece (Ch.xor k (b.take 32)) 0 (N-32))):=by show _=_;unfold Wd.turn;rw[if_neg hr,E]
 rw[b4]at hb
 have a5:Hid (∀W,Blk W G t (u8s (b.take 32)++(u8s (b.drop 32)++rest))→Rd W (some ⟨G,0,none⟩) 32 (u8s (b.take 32))):=fun W h=>by
  have:=h.rd 0 32 (by simp[zaa,D]);rw[List.drop_zero,List.take_append_of_le_length (by rw[zaa,D];exact lr),tk (by rw[zaa,D];exact lr)]at this;exact this
 obtain⟨lf,I⟩:=ex9 (b.take 32);obtain⟨rt,J⟩:=ex9 (b.drop 32);rw[←I,←J]at HT hb a5;rw[←I]at D;rw[←J]at E;have a2:(Ch.xor k lf).length=32:=by rw[Ch.xor_len _ _ om,hk]
 obtain⟨X,hX⟩:=ex9 (Ch.xor k lf);have c0:Hid (Ch.xor k lf=X):=hX.symm;rw[←hX]at HT a2;have b5:Hid (∀W K,Rd W (some ⟨K,0,none⟩) 32 (u8s X)→Calls Tryz.prog 77 #[.slice (some ⟨K,0,none⟩) 32 32,.int .i64 ((N-32:Nat):Int)] W fun e w'=>∃A' c',e=.returned (.tuple #[.slice A' (N-32) c',.int .i64 0])∧(N-32)≤c'∧w'.ownsRow W.heap.size 5 1 (.slice A' (N-32) c') (N-32) (u8s (Ch.piece X 0 (N-32)))∧Below W.heap.size W w'):=fun W K h1=>zig _ 32 X (N-32) W h1 om
 obtain⟨Z,hZ⟩:=ex9 (Ch.piece X 0 (N-32));rw[←hZ]at b5 HT;have a9:=qh hb;have hG:G<w.heap.size:=hb.lt;have c7:=qh D;have b2:=qh E;have c4:=qh hk;have b6:=qh a2;have V:Hid (Blk (w.alloc (.cells (u8s k).toArray 27)) w.heap.size 27 ([]++(u8s k++[]))):=by rw[List.nil_append,List.append_nil];exact Blk.new w _ _
 obtain⟨U,hU⟩:=ex9 (u8s k);rw[←hU]at V ⊢;have e1:(32:Int)≤(c:Int):=om;have d9:¬c=32:=om;have d5:(32:Int)≤(N:Int):=om;have c5:=qh hU;have d3:((r:Int) == 2)=false:=by rw[beq_eq_false_iff_ne];omega
 have d4:((r:Int) == 4)=false:=by rw[beq_eq_false_iff_ne];omega
 have hM:0<N-32:=om;clear b4 I J E D hX hZ hU hb hk hr a2
 go_enter Tryz.func85, Tryz.ntmps85
 go_wp2_with fail
 go_quiet (fail)
 have a0:Hid (Blk ((w.alloc (.cells U.toArray 27)).drewN nq) G t (u8s lf++(u8s rt++rest))):=(a9.o.alloc _).drewN nq;have a3:Hid (Blk ((w.alloc (.cells U.toArray 27)).drewN nq) w.heap.size 27 ([]++(u8s k++[]))):=by rw[←c5.o];exact V.o.drewN nq
 have a1:Hid (Below w.heap.size w ((w.alloc (.cells U.toArray 27)).drewN nq)):=Below.drewM ((Below.refl _ _).alloc lr _) nq;have c3:w.heap.size<((w.alloc (.cells U.toArray 27)).drewN nq).heap.size:=by show w.heap.size<(w.alloc (.cells U.toArray 27)).heap.size;simp
 obtain⟨w1,a4⟩:=ex9 ((w.alloc (.cells U.toArray 27)).drewN nq);rw[←a4]at a0 a3 a1 c3 ⊢;clear a4 a9 V;have b9:=qh (a5.o _ a0.o)
 go_wp2_with (first
  | (go_at_call 77;(with_reducible refine(b5.o w2 _ b1.o).mono ?_);rintro e w3 ⟨A',c',rfl,d8,A,M⟩;have c2:=qtr d0 M;have c1:=qbl a7 M;have c8:=qh (Rd.of_own A);have c9:Hid (∀ad:Addr,A'=some ad→ad.block≠G):=(by obtain⟨g3,rfl,d7,_,_⟩:=zco A hM;intro ad e;injection e with e;subst e;show g3≠G;have:=a7.o.lt;omega);clear A M)
  | (go_at_call 106;(with_reducible refine(zmv G 32 (N-32) (c-32) t (u8s lf) rest rt Z A' c' w3 c1.o (by rw[zaa];exact c7.o) b2.o c8.o (fun _=>c9.o) om).mono ?_);rintro e w4 ⟨rfl,b3,a6⟩;have c6:=qh b3;have b7:=qh (Below.wroteOf c2.o a6);clear b3 a6)
  | (go_at_call 106;(with_reducible refine(zmv w.heap.size 0 32 32 27 [] [] k lf (some ⟨G,0,none⟩) c w1 a3.o rfl c4.o b9.o (fun _ ad e=>by injection e with e;subst e;show G≠w.heap.size;omega) om).mono ?_);rintro e w2 ⟨rfl,a8,Y⟩;have d0:=qh (Wrote.below Y a1.o lr a1.o.size);have a7:=qh (a0.o.wrote Y om);have b1:Hid (Rd w2 (some ⟨w.heap.size,0,none⟩) 32 (u8s X)):=(by have h5:=a8;rw[List.nil_append,List.append_nil,c0.o]at h5;have h6:=h5.rdAll;rw[b6.o]at h6;exact h6);clear a8 Y))
 go_end0
 exact⟨rfl,by rw[HT.o,zae,as9];exact c6.o,b7.o⟩
theorem zt3(G N c:Nat)(t:TypeId)(rest:List Value)(k b:List UInt8)(r:Nat)(w:World)(hb:Blk w G t (u8s b++rest))(hk:k.length=32)(hN:b.length=N)(A:32<N)(D:N≤65536)(hc:N≤c):
 Calls Tryz.prog 85 #[.slice (some ⟨G,0,none⟩) N c,.agg (u8s k).toArray,.int .i64 r] w fun e w'=>e=.returned (.tuple #[])∧Blk w' G t (u8s (Wd.turn k b r)++rest)∧Wrote G w w':=by
 by_cases hr:r=2∨r=4
 · exact zqk G N c t rest k b r w hb hk hN A om hc hr
 · exact zt2 G N c t rest k b r w hb hk hN A D hc hr
theorem zmq{w:World}{base n c:Nat}{e:TypeId}{A:Option Addr}{xs:List Value}(h:w.ownsRow base e 1 (.slice A n c) n xs)(hn:0<n):∃g rest,A=some ⟨g,0,none⟩∧base≤g∧Blk w g e (xs++rest):=by
 rcases h.2 with ⟨_,h0⟩|⟨g,G,D,hv,hb,hg,E,_,I,r⟩
 · omega
 · injection hv with hA
   subst hA;refine⟨g,D.toList.drop n,rfl,hb,?_⟩
   unfold Blk
   rw[hg,←r,Nat.mul_one,List.take_append_drop]
def labels4:List ByteArray:=[⟨#[119,105,100,101,49]⟩,⟨#[119,105,100,101,50]⟩,⟨#[119,105,100,101,51]⟩,⟨#[119,105,100,101,52]⟩]
theorem keys4(r:List UInt8):keysOf r labels4=Wd.derive r (Wd.label 1)++(Wd.derive r (Wd.label 2)++(Wd.derive r (Wd.label 3)++(Wd.derive r (Wd.label 4)++[]))):=rfl
theorem zvi(r:List UInt8)(q:Nat)(hq:q<4):((keysOf r labels4).drop (q*32)).take 32=Wd.derive r (Wd.label (q+1)):=by
 rw[keys4];have h1:=Wd.derive_len r (Wd.label 1);have h2:=Wd.derive_len r (Wd.label 2);have h3:=Wd.derive_len r (Wd.label 3);have h4:=Wd.derive_len r (Wd.label 4);obtain rfl|rfl|rfl|rfl:q=0∨q=1∨q=2∨q=3:=om
 · rw[Nat.zero_mul,List.drop_zero,List.take_append_of_le_length om,tk om]
 · rw[List.drop_append_of_le_length om,List.drop_of_length_le om,List.nil_append,List.take_append_of_le_length om,tk om]
 · rw[←as9,List.drop_append_of_le_length (by rw[la9];omega),List.drop_of_length_le (by rw[la9];omega),List.nil_append,List.take_append_of_le_length om,tk om]
 · rw[←as9,←as9,List.drop_append_of_le_length (by rw[la9,la9];omega),List.drop_of_length_le (by rw[la9,la9];omega),List.nil_append,List.take_append_of_le_length om,tk om]
def natsOf(l:List Nat):List Value:=l.map fun(r:Nat)=>Value.int .i64 (r:Int)
theorem zi4{l:List Nat}{i r:Nat}{v:Value}(h:(natsOf l)[i]? = some v)(hr:l[i]? = some r):v=.int .i64 (r:Int):=by
 unfold natsOf at h
 rw[List.getElem?_map,hr]at h
 injection h with h
 exact h.symm
theorem zit(A B C:Option Addr)(c d N m cr:Nat)(E b:List UInt8)(rs:List Nat)(w:World)(h:Rd w A 32 (u8s E))(hc:32≤c)(h2:Rd w B N (u8s b))(hd:N≤d)(h3:Rd w C m (natsOf rs))(e0:32<N)(hN:N≤4096)(hm:m≤1000)(c8:∀r∈rs,1≤r∧r≤4):
 Calls Tryz.prog 53 #[.slice A 32 c,.slice B N d,.slice C m cr] w fun e w'=>∃g c',e=.returned (.tuple #[.slice (some ⟨g,0,none⟩) N c',.int .i64 0])∧N≤c'∧w.heap.size≤g∧Rd w' (some ⟨g,0,none⟩) N (u8s (Wd.rounds E b rs))∧Below w.heap.size w w':=by
 have b7:rs.length=m:=by have:=h3.1;simpa[natsOf] using this
 have M:b.length=N:=h2.len;have a4:=qh b7;have a8:=qh c8;have c2:=qh h3;have X:=qh M;have a6:=zjc A 32 c E (some ⟨w.heap.size,0,none⟩) 4 4 labels4 (w.alloc (.cells #[.string ⟨#[119,105,100,101,49]⟩,.string ⟨#[119,105,100,101,50]⟩,.string ⟨#[119,105,100,101,51]⟩,.string ⟨#[119,105,100,101,52]⟩] 9)) (h.alloc _) hc om (Blk.rd (Blk.new' (cs:=strs labels4) (t:=9) rfl rfl) 0 4 lr) om om (by decide);have e1:(w.alloc (.cells #[.string ⟨#[119,105,100,101,49]⟩,.string ⟨#[119,105,100,101,50]⟩,.string ⟨#[119,105,100,101,51]⟩,.string ⟨#[119,105,100,101,52]⟩] 9)).heap.size=w.heap.size+1:=by simp
 rw[e1]at a6;have e7:=qh a6
 have d6:Hid (∀W:World,Rd W B N (u8s b)→Calls Tryz.prog 36 #[.slice (some ⟨W.heap.size,0,none⟩) 1 1] (W.alloc (.cells #[.slice B N d] 22)) fun e w'=>∃A' c',e=.returned (.slice A' N c')∧N≤c'∧w'.ownsRow (W.heap.size+1) 5 1 (.slice A' N c') N (u8s b)∧Below (W.heap.size+1) (W.alloc (.cells #[.slice B N d] 22)) w'):=fun W hr=>by
  have:=zef (some ⟨W.heap.size,0,none⟩) 1 1 [b] _ (RdB.of_blk (ls:=[b]) (Blk.new' (w:=W) (cs:=[.slice B N d]) (t:=22) rfl rfl) ⟨.of_rd (hr.alloc _) hd,trivial⟩) om b N sy M om;have e2:(W.alloc (.cells #[.slice B N d] 22)).heap.size=W.heap.size+1:=by simp
  rw[←e2];exact this
 have HF:=qh (fun W=>zvz B A N d c W om hN);have d7:=qh h2;clear b7 M c8 h h2 h3 a6 e1
 go_enter Tryz.func53, Tryz.ntmps53
 go_wp2_with fail
 go_loopg [16] m (fun kk q wr=>∃i:Nat,i≤m∧kk=m-i∧q=.int .i64 i∧w=wr)
 case atStart=>exact⟨0,by omega,rfl,rfl,rfl⟩
 case round =>
  obtain⟨i,hi,U,rfl,rfl⟩:=hrel;have V:=qh U;clear U
  by_cases hlt:i<m
  · have d4:(i:Int)<(m:Int):=om
    obtain⟨r,hr⟩:∃r,rs[i]? = some r:=⟨_,ge9 (by rw[a4.o];exact hlt)⟩;have c5:=a8.o r (mg9 hr);obtain⟨b1,d9,u,rfl,M,HX,e6⟩:=c2.o.at_ hlt;have hu:=zi4 HX.o hr;subst hu;have f2:¬(r:Int)<1:=om;have f0:¬(4:Int)<(r:Int):=om;clear hr HX
    go_wp2_with fail
    go_roundg (m-(i+1))
    case measure=>have:=V.o;omega
    case rel=>exact⟨i+1,by omega,rfl,by go_num,rfl⟩
  · obtain rfl:i=m:=om
    have d4:¬(i:Int)<(i:Int):=om;clear V hlt hi
    go_wp2_with (first
     | (go_at_call 83;(with_reducible refine(HF.o _).mono ?_);rintro e w' ⟨rfl,rfl⟩)
     | (go_at_call 84;(with_reducible refine e7.o.mono ?_);rintro e w2 ⟨a2,rfl,e8,b2,b6⟩;have I:=qh (((Below.refl _ w).alloc lr _).trans (b6.mono (Nat.le_succ _)));have a0:=qh b2;clear b2 b6)
     | (go_at_call 36;(with_reducible refine(d6.o w2 (d7.o.below I.o)).mono ?_);rintro e w3 ⟨A3,c3,rfl,b9,J,a3⟩;have c1:=qh ((I.o.alloc I.o.size _).trans (a3.mono (Nat.le_trans I.o.size (Nat.le_succ _))));have c6:=qh ((a0.o.alloc _).below a3 (Nat.lt_succ_of_lt a0.o.lt));have f1:=a0.o.lt;have c9:=qh J;clear J a3))
    obtain⟨g,rest,rfl,f6,d5⟩:=zmq c9.o om;have d3:Hid (Blk w3 g 5 (u8s (Wd.rounds E b (rs.take 0))++rest)):=d5;have a9:w.heap.size≤g:=by have:=I.o.size;omega
    clear I a0 c9 d5
    go_loopg [39] i (fun kk q wr=>∃j:Nat,j≤i∧kk=i-j∧q=.int .i64 j∧Blk wr g 5 (u8s (Wd.rounds E b (rs.take j))++rest)∧Blk wr a2 27 (u8s (keysOf E labels4))∧Below w.heap.size w wr)
    case atStart=>exact⟨0,by omega,rfl,rfl,d3.o,c6.o,c1.o⟩
    case round =>
     clear d3 c6 c1;obtain⟨j,hj,U,rfl,hb,hk,hB⟩:=hrel;have V:=qh U;clear U
     by_cases hlt:j<i
     · have e9:(j:Int)<(i:Int):=om
       obtain⟨r,hr⟩:∃r,rs[j]? = some r:=⟨_,ge9 (by rw[a4.o];exact hlt)⟩;have c5:=a8.o r (mg9 hr);obtain⟨b1,d9,u,rfl,M,HX,e6⟩:=(c2.o.below hB).at_ hlt;have hu:=zi4 HX.o hr;subst hu;obtain⟨q,hq⟩:∃q,r=q+1:=⟨r-1,by omega⟩;have f8:(r:Int)-1=(q:Int):=om;have f5:(0:Int)≤(q:Int):=om;have f4:(q:Int)<4:=om;have a1:=zvi E q om;rw[←hq]at a1;have Y:=Wd.derive_len E (Wd.label r)
       have b5:Hid (Wd.rounds E b (rs.take (j+1))=Wd.turn (Wd.derive E (Wd.label r)) (Wd.rounds E b (rs.take j)) r):=by
        show _=_
        rw[List.take_add_one,hr];exact Wd.rounds_snoc _ _ _ _
       have G:(Wd.rounds E b (rs.take j)).length=N:=by rw[Wd.rounds_len _ _ _ (by rw[X.o];omega),X.o]
       obtain⟨D,hD⟩:=ex9 (Wd.derive E (Wd.label r));rw[←hD]at a1 Y b5
       have c7:Hid (wr.rangeAt a2 (q*32) (u8s D)):=hk.mid (q*32) (u8s D) (fun jj v hv=>by
        rw[←a1,←zay,←za9,List.getElem?_take]at hv
        split at hv
        · rw[List.getElem?_drop]at hv;exact hv
        · cases hv)
       have c0:Hid ((Tryz.prog.info? 27).map (·.size)=some (u8s D).length):=by rw[zaa,Y];exact hd24
       have a7:=qh (zt3 g N c3 5 rest D (Wd.rounds E b (rs.take j)) r wr hb Y G e0 om b9);rw[←b5.o]at a7;obtain⟨DU,b3⟩:=ex9 (u8s D);rw[←b3]at c7 c0 a7;have HK:=qh hk;have c4:=qh hB;have b4:a2≠g:=om;have f3:=hb.lt;have f7:=hk.lt;clear hr hD b3 a1 Y G hb hk hB HX hq
       go_wp2_with (first
        | refine wpList_load_mid rfl 27 (.tmp 47) rfl a2 (q*32) rr DU _ c7.o Tryz.underlying27 rfl c0.o ?_
        | (go_at_call 85;(with_reducible refine a7.o.mono ?_);rintro e w5 ⟨rfl,d0,a5⟩;have e5:=qh d0;have e4:=qh (HK.o.wrote a5 b4);have e3:=qh (Wrote.below a5 c4.o a9 c4.o.size);clear d0 a5))
       go_roundg (i-(j+1))
       case measure=>have:=V.o;omega
       case rel=>exact⟨j+1,by omega,rfl,by go_num,e5.o,e4.o,e3.o⟩
     · obtain rfl:j=i:=om
       have G:(Wd.rounds E b rs).length=N:=by rw[Wd.rounds_len _ _ _ (by rw[X.o];omega),X.o]
       rw[tk (by rw[a4.o];exact lr)]at hb
       have d8:Hid (Rd wr (some ⟨g,0,none⟩) N (u8s (Wd.rounds E b rs))):=by
        have h5:=hb.rd 0 N (by rw[la9,zaa,G];omega);rw[List.drop_zero,List.take_append_of_le_length (by rw[zaa,G];exact lr),tk (by rw[zaa,G];exact lr)]at h5;exact h5
       clear G hb
       go_wp2_with fail
       go_ret2;exact⟨g,c3,rfl,b9,a9,d8.o,hB⟩
theorem nats4(w:World)(a b c d:Nat):Rd (w.alloc (.cells #[.int .i64 (a:Int),.int .i64 (b:Int),.int .i64 (c:Int),.int .i64 (d:Int)] 3)) (some ⟨w.heap.size,0,none⟩) 4 (natsOf [a,b,c,d]) :=
 Blk.rd (Blk.new' (cs:=natsOf [a,b,c,d]) (t:=3) rfl rfl) 0 4 lr
theorem zua(A B:Option Addr)(c d N:Nat)(r b:List UInt8)(w:World)(h:Rd w A 32 (u8s r))(hc:32≤c)(h2:Rd w B N (u8s b))(hd:N≤d)(G:32<N)(hN:N≤4096):
 Calls Tryz.prog 24 #[.slice A 32 c,.slice B N d] w fun e w'=>∃g c',e=.returned (.tuple #[.slice (some ⟨g,0,none⟩) N c',.int .i64 0])∧N≤c'∧w.heap.size≤g∧Rd w' (some ⟨g,0,none⟩) N (u8s (Wd.seal_ r b))∧Below w.heap.size w w':=by
 have hr:=zit A B (some ⟨w.heap.size,0,none⟩) c d N 4 4 r b [1,2,3,4] _ (h.alloc _) hc (h2.alloc _) hd (nats4 w 1 2 3 4) G hN om (by decide);have e2:(w.alloc (.cells #[.int .i64 ((1:Nat):Int),.int .i64 ((2:Nat):Int),.int .i64 ((3:Nat):Int),.int .i64 ((4:Nat):Int)] 3)).heap.size=w.heap.size+1:=by simp
 rw[e2]at hr;have HR:Hid (Calls Tryz.prog 53 #[.slice A 32 c,.slice B N d,.slice (some ⟨w.heap.size,0,none⟩) 4 4] (w.alloc (.cells #[.int .i64 1,.int .i64 2,.int .i64 3,.int .i64 4] 3)) fun e w'=>∃g c',e=.returned (.tuple #[.slice (some ⟨g,0,none⟩) N c',.int .i64 0])∧N≤c'∧w.heap.size+1≤g∧Rd w' (some ⟨g,0,none⟩) N (u8s (Wd.seal_ r b))∧Below (w.heap.size+1) (w.alloc (.cells #[.int .i64 1,.int .i64 2,.int .i64 3,.int .i64 4] 3)) w'):=hr;clear h h2 hr e2
 go_enter Tryz.func24, Tryz.ntmps24
 go_wp2_with (go_at_call 53;(with_reducible refine HR.o.mono ?_);rintro e w1 ⟨g,c',rfl,E,hg,D,hB⟩;have I:=qh D;clear D)
 go_ret2;exact⟨g,c',rfl,E,by omega,I.o,((Below.refl _ _).alloc lr _).trans (hB.mono (Nat.le_succ _))⟩
theorem zu3(A B:Option Addr)(c d N:Nat)(r b:List UInt8)(w:World)(h:Rd w A 32 (u8s r))(hc:32≤c)(h2:Rd w B N (u8s b))(hd:N≤d)(G:32<N)(hN:N≤4096):
 Calls Tryz.prog 26 #[.slice A 32 c,.slice B N d] w fun e w'=>∃g c',e=.returned (.tuple #[.slice (some ⟨g,0,none⟩) N c',.int .i64 0])∧N≤c'∧w.heap.size≤g∧Rd w' (some ⟨g,0,none⟩) N (u8s (Wd.open_ r b))∧Below w.heap.size w w':=by
 have hr:=zit A B (some ⟨w.heap.size,0,none⟩) c d N 4 4 r b [4,3,2,1] _ (h.alloc _) hc (h2.alloc _) hd (nats4 w 4 3 2 1) G hN om (by decide);have e2:(w.alloc (.cells #[.int .i64 ((4:Nat):Int),.int .i64 ((3:Nat):Int),.int .i64 ((2:Nat):Int),.int .i64 ((1:Nat):Int)] 3)).heap.size=w.heap.size+1:=by simp
 rw[e2]at hr;have HR:Hid (Calls Tryz.prog 53 #[.slice A 32 c,.slice B N d,.slice (some ⟨w.heap.size,0,none⟩) 4 4] (w.alloc (.cells #[.int .i64 4,.int .i64 3,.int .i64 2,.int .i64 1] 3)) fun e w'=>∃g c',e=.returned (.tuple #[.slice (some ⟨g,0,none⟩) N c',.int .i64 0])∧N≤c'∧w.heap.size+1≤g∧Rd w' (some ⟨g,0,none⟩) N (u8s (Wd.open_ r b))∧Below (w.heap.size+1) (w.alloc (.cells #[.int .i64 4,.int .i64 3,.int .i64 2,.int .i64 1] 3)) w'):=hr;clear h h2 hr e2
 go_enter Tryz.func26, Tryz.ntmps26
 go_wp2_with (go_at_call 53;(with_reducible refine HR.o.mono ?_);rintro e w1 ⟨g,c',rfl,E,hg,D,hB⟩;have I:=qh D;clear D)
 go_ret2;exact⟨g,c',rfl,E,by omega,I.o,((Below.refl _ _).alloc lr _).trans (hB.mono (Nat.le_succ _))⟩
section
section
variable{P:Program}{w:World}{o:Oper}{a:Act}
theorem zeo{t e:TypeId}{x y:Operand}{g off n c p:Nat}(ho:o.op=.indexAddr t x y)(hx:a.eval x=.slice (some ⟨g,off,none⟩) n c)(hy:a.eval y=.int .i64 (p:Int))(hp:p<n)(hu:P.underlying t=some (.slice e))(hz:∀w,(sizeOf e).run P w=.ok 1 w):(execOp a.eval o).run P w=.ok (.value (.pointer (some ⟨g,off+p,none⟩))) w:=by
 unfold execOp
 simp[ho,hx,hy,Instr.indexAt,asIntOf,run_underlying hu,hz,hp,Addr.add]
theorem zs9{t:TypeId}{x y:Operand}{p:Addr}{u v:Value}(ho:o.op=.store t x y)(hx:a.eval x=.pointer (some p))(hy:a.eval y=v)(h1:v.oneCell'=true)(hz:∀w,(sizeOf t).run P w=.ok 1 w)(hc:w.cell? p=some u)(hf:w.frozen? p=false):(execOp a.eval o).run P w=.ok .skip (w.setCell p v):=by
 unfold execOp
 cases v <;> first
  | (simp[ho,hx,hy,Instr.storeAt,Instr.sureAddr,storeVar,hz,Value.cells,storeCells,store,Addr.add,Sem.run,hc,hf];done)
  | (cases h1;done)
end
theorem szSl(w:World):(sizeOf 22).run Tryz.prog w=.ok 1 w:=by kernel_rfl
theorem agSl(w:World):(isAgg 22).run Tryz.prog w=.ok false w:=by kernel_rfl
theorem zyx(x y:List UInt8):mixed x y 0=x:=by simp[mixed,Ch.xor]
end
section
structure Cm where
 k:UInt8
 f:UInt8
 d:Nat
 n:Nat
 m:List UInt8
namespace Cm
def cells(c:Cm):List Value:=.int .u8 c.k.toNat :: .int .u8 c.f.toNat :: .int .u32 (c.d:Int) :: .int .u64 (c.n:Int) :: u8s c.m
def ok(c:Cm):Prop:=c.d<4294967296∧c.n<18446744073709551616∧c.m.length=16
def zero:Cm:=⟨0,0,0,0,List.replicate 16 0⟩
theorem zero_ok:zero.ok:=⟨by decide,by decide,rfl⟩
def shaped(c:Cm):Bool:=if (decide (c.k=1) != decide (c.n≠0))=true then false else (decide (c.k=4)|| decide (c.m=List.replicate 16 0))
def check(c:Cm):Nat:=if c.k.toNat<1∨4<c.k.toNat then 1 else if c.shaped=false then 3 else if 1000000<c.d then 11 else 0
theorem cells_len{c:Cm}(h:c.ok):c.cells.length=20:=by simp[cells,zaa,h.2.2]
theorem cells_one(c:Cm):∀v∈c.cells,v.oneCell'=true:=by
 intro v hv;simp only[cells,List.mem_cons]at hv
 rcases hv with rfl|rfl|rfl|rfl|hv
 · rfl
 · rfl
 · rfl
 · rfl
 · exact zac _ v hv
theorem cells_mark(c:Cm):(c.cells.drop 4)=u8s c.m:=rfl
end Cm
theorem hd76c:(Tryz.prog.info? 63).map (·.size)=some 20:=by kernel_rfl
theorem hd16c:(Tryz.prog.info? 28).map (·.size)=some 16:=by kernel_rfl
theorem zfx(v:Value):Instr.loadAt 28 v=ldAt 28 v:=rfl
theorem zch(v:Value):Instr.loadAt 63 v=ldAt 63 v:=rfl
theorem ztc(x y:Value):binOp .eql 28 x y=eqAt 28 x y:=rfl
def bld16:Sem Value:=Instr.build 28 #[]
theorem zov:Instr.build 28 #[]=bld16:=rfl
attribute [local go_sem ↓] zfx ztc zov zch
theorem zp7{w:World}{g:Nat}{t:TypeId}{c:Cm}(hb:Blk w g t c.cells)(hc:c.ok):(ldAt 28 (.pointer (some ⟨g,4,none⟩))).run Tryz.prog w=.ok (.agg (u8s c.m).toArray) w :=
 zal hb _ 4 (u8s c.m) (by rw[Cm.cells_mark,tk lr]) _ Tryz.underlying28 rfl (by rw[zaa,hc.2.2];exact hd16c)
theorem k_eq(a b:UInt8):((a.toNat:Int) == (b.toNat:Int))=decide (a=b):=by
 rw[Bool.eq_iff_iff,beq_iff_eq,decide_eq_true_iff];exact⟨fun h=>UInt8.toNat_inj.1 om,fun h=>by rw[h]⟩
theorem n_ne(n:Nat):((n:Int) != 0)=decide (n≠0):=by
 rw[Bool.eq_iff_iff,bne_iff_ne,decide_eq_true_iff];omega
theorem zio(c:Cm)(hc:c.ok)(w:World):
 Calls Tryz.prog 68 #[.agg c.cells.toArray] w fun e w'=>e=.returned (.bool c.shaped)∧Below w.heap.size w w':=by
 obtain⟨C,hC⟩:=ex9 (c.cells);have hb:Blk (w.alloc (.cells C.toArray 63)) w.heap.size 63 C:=Blk.new w _ _;have c0:(w.alloc (.cells C.toArray 63)).cell? ⟨w.heap.size,0,none⟩=some (.int .u8 c.k.toNat):=by rw[hb.cell,hC];rfl
 have c3:(w.alloc (.cells C.toArray 63)).cell? ⟨w.heap.size,3,none⟩=some (.int .u64 (c.n:Int)):=by rw[hb.cell,hC];rfl
 have A:(ldAt 28 (.pointer (some ⟨w.heap.size,4,none⟩))).run Tryz.prog (w.alloc (.cells C.toArray 63))=.ok (.agg (u8s c.m).toArray) (w.alloc (.cells C.toArray 63)):=by
  subst hC;exact zp7 hb hc
 have D:∀W,(eqAt 28 (.agg (u8s c.m).toArray) (.agg #[.int .u8 0,.int .u8 0,.int .u8 0,.int .u8 0,.int .u8 0,.int .u8 0,.int .u8 0,.int .u8 0,.int .u8 0,.int .u8 0,.int .u8 0,.int .u8 0,.int .u8 0,.int .u8 0,.int .u8 0,.int .u8 0])).run Tryz.prog W=.ok (.bool (decide (c.m=List.replicate 16 0))) W:=fun W=>eq16 c.m (List.replicate 16 0) hc.2.2 rfl W
 have e1:((c.k.toNat:Int) == 1)=decide (c.k=1):=k_eq c.k 1;have e2:((c.n:Int) != 0)=decide (c.n≠0):=n_ne c.n;have e3:((c.k.toNat:Int) == 4)=decide (c.k=4):=k_eq c.k 4;have HS:Hid (c.shaped=if (decide (c.k=1) != decide (c.n≠0))=true then false else (decide (c.k=4)|| decide (c.m=List.replicate 16 0))):=rfl;rw[←hC];obtain⟨S,r⟩:=ex9 (c.shaped);rw[←r]at HS ⊢;generalize u8s c.m=M at *;generalize decide (c.m=List.replicate 16 0)=pm at *;generalize decide (c.k=1)=p1 at *;generalize decide (c.k=4)=p4 at *;generalize decide (c.n≠0)=pn at *;generalize (c.k.toNat:Int)=K at *;generalize (c.n:Int)=NN at *;have HE:=qh ((Below.refl w.heap.size w).alloc lr (.cells C.toArray 63));clear hC hb hc r
 cases hx:(p1 == pn)with
 | false =>
  rw[show(p1 != pn)=true by rw[bne,hx];rfl,if_pos rfl]at HS
  go_enter Tryz.func68, Tryz.ntmps68
  go_wp2_with fail
  go_ret;exact⟨by rw[HS.o];rfl,HE.o⟩
 | true =>
  rw[show(p1 != pn)=false by rw[bne,hx];rfl,if_neg (by decide)]at HS
  cases p4 with
  | true =>
   go_enter Tryz.func68, Tryz.ntmps68
   go_wp2_with fail
   go_ret;exact⟨by rw[HS.o];rfl,HE.o⟩
  | false =>
   go_enter Tryz.func68, Tryz.ntmps68
   go_wp2_with fail
   go_ret;exact⟨by rw[HS.o];rfl,HE.o⟩
theorem cm_ld{w:World}{g:Nat}{t:TypeId}{C:List Value}(hb:Blk w g t C)(hl:C.length=20):(ldAt 63 (.pointer (some ⟨g,0,none⟩))).run Tryz.prog w=.ok (.agg C.toArray) w :=
 zal hb _ 0 C (by rw[List.drop_zero,tk lr]) _ Tryz.underlying63 rfl (by rw[hl];exact hd76c)
theorem zot(c:Cm)(hc:c.ok)(w:World):
 Calls Tryz.prog 76 #[.agg c.cells.toArray] w fun e w'=>e=.returned (.int .i64 (c.check:Int))∧Below w.heap.size w w':=by
 have G:=qh (fun W=>zio c hc W);have hl:=Cm.cells_len hc;obtain⟨C,hC⟩:=ex9 (c.cells);have hb:Blk (w.alloc (.cells C.toArray 63)) w.heap.size 63 C:=Blk.new w _ _;have c0:(w.alloc (.cells C.toArray 63)).cell? ⟨w.heap.size,0,none⟩=some (.int .u8 c.k.toNat):=by rw[hb.cell,hC];rfl
 rw[←hC]at hl G ⊢;have J:(ldAt 63 (.pointer (some ⟨w.heap.size,0,none⟩))).run Tryz.prog (w.alloc (.cells C.toArray 63))=.ok (.agg C.toArray) (w.alloc (.cells C.toArray 63)):=cm_ld hb hl;have I:Hid (C[2]? = some (.int .u32 (c.d:Int))):=by rw[hC];rfl
 have HE:=qh ((Below.refl w.heap.size w).alloc lr (.cells C.toArray 63));have HB:=qh hb;have r:Hid (c.check=if c.k.toNat<1∨4<c.k.toNat then 1 else if c.shaped=false then 3 else if 1000000<c.d then 11 else 0):=rfl;obtain⟨R,hR⟩:=ex9 (c.check);rw[←hR]at r ⊢;generalize c.shaped=S at *;generalize c.k.toNat=K at *;generalize c.d=D at *;clear hb hl hC hR hc
 by_cases h1:K<1
 · rw[if_pos (.inl h1)]at r
   have i1:(K:Int)<1:=om
   go_enter Tryz.func76, Tryz.ntmps76
   go_wp2_with fail
   go_ret;exact⟨by rw[r.o];rfl,HE.o⟩
 · have i1:¬(K:Int)<1:=om
   by_cases h4:4<K
   · rw[if_pos (.inr h4)]at r
     have i4:(4:Int)<(K:Int):=om
     go_enter Tryz.func76, Tryz.ntmps76
     go_wp2_with fail
     go_ret;exact⟨by rw[r.o];rfl,HE.o⟩
   · have i4:¬(4:Int)<(K:Int):=om
     rw[if_neg om]at r
     cases S with
     | false =>
      rw[if_pos rfl]at r
      go_enter Tryz.func76, Tryz.ntmps76
      go_wp2_with (go_at_call 68;(with_reducible refine(G.o _).mono ?_);rintro e w1 ⟨rfl,A⟩;have E:=qh (HE.o.trans (A.mono sy));clear A)
      go_ret;exact⟨by rw[r.o];rfl,E.o⟩
     | true =>
      rw[if_neg (by decide)]at r
      by_cases hd:1000000<D
      · have i5:(1000000:Int)<(D:Int):=om
        rw[if_pos hd]at r
        go_enter Tryz.func76, Tryz.ntmps76
        go_wp2_with (go_at_call 68;(with_reducible refine(G.o _).mono ?_);rintro e w1 ⟨rfl,A⟩;have E:=qh (HE.o.trans (A.mono sy));have c2:w1.cell? ⟨w.heap.size,2,none⟩=some (.int .u32 (D:Int)):=by rw[(HB.o.below A HB.o.lt).cell];exact I.o
                     clear A)
        go_ret;exact⟨by rw[r.o];rfl,E.o⟩
      · have i5:¬(1000000:Int)<(D:Int):=om
        rw[if_neg hd]at r
        go_enter Tryz.func76, Tryz.ntmps76
        go_wp2_with (go_at_call 68;(with_reducible refine(G.o _).mono ?_);rintro e w1 ⟨rfl,A⟩;have E:=qh (HE.o.trans (A.mono sy));have c2:w1.cell? ⟨w.heap.size,2,none⟩=some (.int .u32 (D:Int)):=by rw[(HB.o.below A HB.o.lt).cell];exact I.o
                     clear A)
        go_ret;exact⟨by rw[r.o];rfl,E.o⟩
end
def PaysR(w:World)(A:Option Addr)(m:Nat)(ks:List (List UInt8)):Prop :=
 ks.length=m∧(∀k∈ks,k.length=32)∧(0<m→∃b off,A=some ⟨b,off,none⟩∧∀i k,ks[i]? = some k→Rd w (some ⟨b,off+i*32,none⟩) 32 (u8s k))
theorem PaysR.below{w w':World}{A:Option Addr}{m:Nat}{ks:List (List UInt8)}(h:PaysR w A m ks)(hB:Below w.heap.size w w'):PaysR w' A m ks :=
 ⟨h.1,h.2.1,fun hm=>by
  obtain⟨b,r,e,hr⟩:=h.2.2 hm
  exact⟨b,r,e,fun i k hi=>(hr i k hi).below hB⟩⟩
theorem eSl:ElemIs Tryz.prog 22 1 24:=ElemIs.of (z:=.slice none 0 0) kr rfl om
theorem iSl:(Tryz.prog.info? 22).map (fun i=>(i.zero,i.size,i.bytes))=some (some (.slice none 0 0),1,24):=by kernel_rfl
section
def Cm.enc(c:Cm):List UInt8:=[c.k,c.f]++(Sh.beBytes c.d 4++(Sh.beBytes c.n 8++(c.m++[0,0])))
theorem Cm.enc_len{c:Cm}(h:c.ok):c.enc.length=32:=by simp[Cm.enc,beBytes_len,h.2.2]
attribute [local go_sem ↓] zfx ztc zov zch
theorem Below.al{w w':World}(h:Below w.heap.size w w')(o:Obj):Below w.heap.size w (w'.alloc o):=h.alloc h.size o
theorem zzd(c:Cm)(hc:c.ok)(h0:c.check=0)(w:World):
 Calls Tryz.prog 48 #[.agg c.cells.toArray] w fun e w'=>∃A' c',e=.returned (.tuple #[.slice A' 32 c',.int .i64 0])∧32≤c'∧w'.ownsRow w.heap.size 5 1 (.slice A' 32 c') 32 (u8s c.enc)∧Below w.heap.size w w':=by
 have G:=qh (fun W=>zot c hc W);have hl:=Cm.cells_len hc;have a7:=qh (Cm.enc_len hc);have a4:Hid ([[c.k,c.f],Sh.beBytes c.d 4,Sh.beBytes c.n 8,c.m,[0,0]].flatten=c.enc):=by show _=_;simp[Cm.enc]
 have a6:=qh (fun W=>put_4 c.d W (by have:=hc.1;omega) hc.1);have a3:=qh (fun W=>put_8 c.n W hc.2.1);have c6:(0:Int)≤(c.d:Int):=om;have c5:(c.d:Int)<4294967296:=by have:=hc.1;omega
 have a1:=qh hc.2.2;obtain⟨C,hC⟩:=ex9 (c.cells);have hb:Blk (w.alloc (.cells C.toArray 63)) w.heap.size 63 C:=Blk.new w _ _;rw[←hC]at hl G ⊢;have c8:(ldAt 63 (.pointer (some ⟨w.heap.size,0,none⟩))).run Tryz.prog (w.alloc (.cells C.toArray 63))=.ok (.agg C.toArray) (w.alloc (.cells C.toArray 63)):=cm_ld hb hl;have b9:Hid (C[0]? = some (.int .u8 c.k.toNat)):=by rw[hC];rfl
 have a2:Hid (C[1]? = some (.int .u8 c.f.toNat)):=by rw[hC];rfl
 have b4:Hid (C[2]? = some (.int .u32 (c.d:Int))):=by rw[hC];rfl
 have a5:Hid (C[3]? = some (.int .u64 (c.n:Int))):=by rw[hC];rfl
 have c0:Hid (C.drop 4=u8s c.m):=by rw[hC];rfl
 have b5:=qh hl;have HE:=qh ((Below.refl w.heap.size w).alloc lr (.cells C.toArray 63));have HB:=qh hb;rw[h0]at G;clear hb hl hC h0 hc
 go_enter Tryz.func48, Tryz.ntmps48
 go_wp2_with (first
  | (go_at_call 76;(with_reducible refine(G.o _).mono ?_);rintro e w1 ⟨rfl,D⟩;have c1:=qh (HE.o.trans (D.mono sy));have V:=qbl HB D;have c2:w1.cell? ⟨w.heap.size,2,none⟩=some (.int .u32 (c.d:Int)):=by rw[V.o.cell];exact b4.o
     clear D)
  | (go_at_call 52;(with_reducible refine(a6.o w1).mono ?_);rintro e w2 ⟨rfl,Y,J⟩;have b1:=qtr c1 J;have X:=qbl V J;have b2:=qh Y;have c3:w2.cell? ⟨w.heap.size,3,none⟩=some (.int .u64 (c.n:Int)):=by rw[X.o.cell];exact a5.o
     clear Y J)
  | (go_at_call 52;(with_reducible refine(a3.o w2).mono ?_);rintro e w3 ⟨rfl,a0,A⟩;have I:=qtr b1 A;have E:=qbl X A;have b3:=qbl b2 A;have a8:=qh a0;clear a0 A))
 have HQ:Hid (∀(W:World) (gk gz gl:Nat),
     Blk W gl 22 [.slice (some ⟨gk,0,none⟩) 2 2,.slice (some ⟨w1.heap.size,0,none⟩) 4 4,.slice (some ⟨w2.heap.size,0,none⟩) 8 8,.slice (some ⟨w.heap.size,4,none⟩) 16 16,.slice (some ⟨gz,0,none⟩) 2 2] →
     Blk W w.heap.size 63 C→Blk W w1.heap.size 5 (u8s (Sh.beBytes c.d 4))→Blk W w2.heap.size 5 (u8s (Sh.beBytes c.n 8)) →
     Blk W gk 5 [.int .u8 c.k.toNat,.int .u8 c.f.toNat]→Blk W gz 5 [.int .u8 0,.int .u8 0] →
     Calls Tryz.prog 36 #[.slice (some ⟨gl,0,none⟩) 5 5] W fun e w'=>∃A' c',e=.returned (.slice A' 32 c')∧32≤c'∧w'.ownsRow W.heap.size 5 1 (.slice A' 32 c') 32 (u8s c.enc)∧Below W.heap.size W w'):=fun W gk gz gl h6 h1 h2 h3 h4 h5 =>
  zef _ 5 5 [[c.k,c.f],Sh.beBytes c.d 4,Sh.beBytes c.n 8,c.m,[0,0]] W (RdB.of_blk h6 ⟨.of_blk h4 0 2 2 [c.k,c.f] sy om rfl,.of_blk h2 0 4 4 (Sh.beBytes c.d 4) (by simp[zaa,beBytes_len]) om (by rw[List.drop_zero,tk (by simp[zaa,beBytes_len])]),
    .of_blk h3 0 8 8 (Sh.beBytes c.n 8) (by simp[zaa,beBytes_len]) om (by rw[List.drop_zero,tk (by simp[zaa,beBytes_len])]),.of_blk h1 4 16 16 c.m (by rw[b5.o];omega) om (by rw[c0.o,tk (by rw[zaa,a1.o];omega)]),.of_blk h5 0 2 2 [0,0] sy om rfl,trivial⟩) om c.enc 32 a4.o a7.o om
 have c7:∀W,(Instr.makeSlice 22 (.int .i64 2) (.int .i64 2)).run Tryz.prog W=.ok (.slice (some ⟨W.heap.size,0,none⟩) 2 2) (W.alloc (.cells #[.int .u8 0,.int .u8 0] 5)):=fun W=>by kernel_rfl
 have b6:Hid (∀W,Below w3.heap.size w3 W→W.cell? ⟨w.heap.size,0,none⟩=some (.int .u8 c.k.toNat)∧W.cell? ⟨w.heap.size,1,none⟩=some (.int .u8 c.f.toNat)):=fun W h=>by
  have h5:=E.o.below h E.o.lt;exact⟨(h5.cell 0).trans b9.o,(h5.cell 1).trans a2.o⟩
 go_region_held3 (fun W'=>W'.cell? ⟨w.heap.size,0,none⟩=some (.int .u8 c.k.toNat)∧W'.cell? ⟨w.heap.size,1,none⟩=some (.int .u8 c.f.toNat)) (exact b6.o _ (by repeat (first|exact M|exact Below.refl _ _|apply Below.drew|apply Below.al))) ((go_at_call 36;(refine(HQ.o _ _ _ _ (by repeat (first|exact Blk.new' sy rfl|apply Blk.drew|apply Blk.alloc)) (by repeat (first|exact E.o|apply Blk.drew|apply Blk.alloc)) (by repeat (first|exact b3.o|apply Blk.drew|apply Blk.alloc)) (by repeat (first|exact a8.o|apply Blk.drew|apply Blk.alloc)) (by repeat (first|exact Blk.new' sy rfl|apply Blk.drew|apply Blk.alloc)) (by repeat (first|exact Blk.new' sy rfl|apply Blk.drew|apply Blk.alloc))).mono ?_);rintro e w4 ⟨A4,c4,rfl,a9,r,U⟩;have M:Below w3.heap.size w3 w4:=Below.trans (by repeat (first|exact Below.refl _ _|apply Below.drew|apply Below.al)) (U.mono (by simp;omega));have b7:=qh (zbi r (base':=w.heap.size) (by have:=I.o.size;simp;omega));clear r U))
 all_goals (go_wp2_with fail)
 all_goals go_ret2
 all_goals exact⟨A4,c4,rfl,a9,b7.o,I.o.trans (M.mono I.o.size)⟩
end
def diff(a b:List UInt8):Nat→UInt8
 | 0=>0
 | i+1=>diff a b i ||| (a.getD i 0 ^^^ b.getD i 0)
theorem xor_zero{x y:UInt8}: x ^^^ y=0 ↔ x=y:=UInt8.xor_eq_zero_iff
