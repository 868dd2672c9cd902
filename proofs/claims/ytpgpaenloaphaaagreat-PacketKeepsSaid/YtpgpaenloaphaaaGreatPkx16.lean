/- Part of the proof. -/
import Derived.Test.YtpgpaenloaphaaaGreatPkx12
set_option maxRecDepth 100000
set_option maxHeartbeats 0
namespace Go.Proofs.YtpgpaenloaphaaaGreat
open Go.RowKit
def mixed(x y:List UInt8)(i:Nat):List UInt8:=Ch.xor (x.take i) (y.take i)++x.drop i
theorem zhk(x y:List UInt8)(i:Nat)(h:x.length=y.length):(mixed x y i).length=x.length:=by
 unfold mixed
 rw[la9,Ch.xor_len _ _ (by simp[h]),List.length_take,List.length_drop];omega
theorem zhl(x y:List UInt8)(i:Nat)(h:x.length=y.length)(hi:i<x.length):(mixed x y i)[i]? = x[i]?:=by
 unfold mixed
 have hl:(Ch.xor (x.take i) (y.take i)).length=i:=by rw[Ch.xor_len _ _ (by simp[h]),List.length_take];omega
 rw[ar9 om,hl,Nat.sub_self,List.getElem?_drop,Nat.add_zero]
theorem zhj(x y:List UInt8)(i:Nat)(h:x.length=y.length){a b:UInt8}(ha:x[i]? = some a)(hb:y[i]? = some b):(mixed x y i).set i (a ^^^ b)=mixed x y (i+1):=by
 unfold mixed
 have hi:=(gi9.1 ha).1;have hl:(Ch.xor (x.take i) (y.take i)).length=i:=by rw[Ch.xor_len _ _ (by simp[h]),List.length_take];omega
 have hd:x.drop i=a :: x.drop (i+1):=by
  rw[List.drop_eq_getElem_cons hi];congr 1;have:=(gi9.1 ha).2;exact this
 rw[List.set_append_right _ _ om,hl,Nat.sub_self,hd,List.set_cons_zero,List.take_add_one,List.take_add_one,ha,hb]
 unfold Ch.xor
 rw[List.zipWith_append (by simp[h])]
 simp
theorem zhm(x y:List UInt8)(h:x.length=y.length):mixed x y x.length=Ch.xor x y:=by
 unfold mixed
 rw[tk lr,tk om,List.drop_of_length_le lr,List.append_nil]
theorem zxg(pre post:List Value)(m:List UInt8)(o i:Nat)(ho:pre.length=o){a:UInt8}(ha:m[i]? = some a):(pre++(u8s m++post))[o+i]? = some (.int .u8 a.toNat):=by
 have hi:=(gi9.1 ha).1;rw[ar9 om,show o+i-pre.length=i by omega,ll9 (by rw[zaa];exact hi),u8s_getElem?,ha]
 rfl
theorem zxf(pre post:List Value)(m:List UInt8)(o i:Nat)(ho:pre.length=o)(hi:i<m.length)(a:UInt8):(pre++(u8s m++post)).set (o+i) (.int .u8 a.toNat)=pre++(u8s (m.set i a)++post):=by
 rw[List.set_append_right _ _ om,show o+i-pre.length=i by omega,List.set_append_left _ _ (by rw[zaa];exact hi),zbg]
theorem zl4(g o n c:Nat)(t:TypeId)(pre post:List Value)(x y:List UInt8)(B:Option Addr)(d:Nat)(w:World)(hb:Blk w g t (pre++(u8s x++post)))(ho:pre.length=o)(hx:x.length=n)(hr:Rd w B n (u8s y))(hB:0<n→∀ad:Addr,B=some ad→ad.block≠g)(hn:n≤1000000):
 Calls Tryz.prog 164 #[.slice (some ⟨g,o,none⟩) n c,.slice B n d] w fun e w'=>e=.returned (.tuple #[])∧Blk w' g t (pre++(u8s (Ch.xor x y)++post))∧Wrote g w w':=by
 have hyl:y.length=n:=hr.len;have HXY:Hid (x.length=y.length):=by rw[hx,hyl];exact rfl
 have HX:=qh hx;have HO:=qh ho;have HY:=qh hyl;have HB:=qh hB;have HE:Hid (mixed x y n=Ch.xor x y):=by rw[←hx];exact zhm x y HXY.out
 have HB0:Hid (Blk w g t (pre++(u8s (mixed x y 0)++post))):=hb;have HR:=qh hr;clear hb ho hx hr hB hyl
 go_enter Tryz.func164, Tryz.ntmps164
 go_wp2_with fail
 go_loopg [8] n (fun k q wr=>∃i:Nat,i≤n∧k=n-i∧q=.int .i64 i∧Blk wr g t (pre++(u8s (mixed x y i)++post))∧Wrote g w wr)
 case atStart=>exact⟨0,by omega,rfl,rfl,HB0.out,Wrote.refl _ _⟩
 case round =>
  clear HB0;obtain⟨i,hi,hgk,rfl,hb,hW⟩:=hrel;have HGK:=qh hgk;clear hgk
  by_cases hlt:i<n
  · have hlt2:(i:Int)<(n:Int):=om
    obtain⟨b,off,v,rfl,hbl,HV,cv⟩:=(HR.out.wrote hW HB.out).u8 hlt;have hbg:b≠g:=HB.out om _ rfl;obtain⟨u,hu⟩:∃u,x[i]? = some u:=⟨_,ge9 (by rw[HX.out];exact hlt)⟩;have hml:=zhk x y i HXY.out;have cu:=(hb.cell (o+i)).trans (zxg pre post _ o i HO.out ((zhl x y i HXY.out (by rw[HX.out];exact hlt)).trans hu));have fu:=hb.frozen (o+i)
    have HST:Hid ((pre++(u8s (mixed x y i)++post)).set (o+i) (.int .u8 (u ^^^ v).toNat)=pre++(u8s (mixed x y (i+1))++post)):=by
     show _=_
     rw[zxf pre post _ o i HO.out (by rw[hml,HX.out];exact hlt),zhj x y i HXY.out hu HV.out]
    have hb2:=qh (hb.set_ (o+i) (.int .u8 (u ^^^ v).toNat));rw[HST.out]at hb2;have hW2:=qh (hW.setCell (o+i) (.int .u8 (u ^^^ v).toNat));have HXR:=qh (zfv u v);have hgl:=hb.lt;clear hb hml hu
    go_wp2_with fail
    rw[HXR.out];go_roundg (n-(i+1))
    case measure=>have:=HGK.out;omega
    case rel=>exact⟨i+1,by omega,rfl,by go_num,hb2.out,hW2.out⟩
  · obtain rfl:i=n:=om
    have hlt2:¬(i:Int)<(i:Int):=om;rw[HE.out]at hb
    go_wp2_with fail
    go_end0
    exact⟨rfl,hb,hW⟩
theorem zff(A:Option Addr)(n c:Nat)(w:World)(h1:32≤n)(h2:n≤4096):Calls Tryz.prog 134 #[.slice A n c] w fun e w'=>e=.returned (.bool true)∧w=w':=by
 have i1:(32:Int)≤(n:Int):=om;have i2:(n:Int)≤4096:=om
 go_enter Tryz.func134, Tryz.ntmps134
 go_wp2;go_ret;exact⟨rfl,rfl⟩
theorem zuq(A B:Option Addr)(n c d:Nat)(w:World)(h1:32≤n)(h2:n≤4096):Calls Tryz.prog 137 #[.slice B 32 d,.slice A n c] w fun e w'=>e=.returned (.bool true)∧w=w':=by
 go_enter Tryz.func137, Tryz.ntmps137
 go_wp2_with (go_at_call 134;refine(zff A n c _ h1 h2).mono ?_;rintro e w' ⟨rfl,rfl⟩)
 go_ret;exact⟨rfl,rfl⟩
theorem Below.wroteOf{w w1 w2:World}{g:Nat}(hb:Below w.heap.size w w1)(h:Wrote g w1 w2):Wrote g w w2:=Below.wrote hb h
theorem zph(G N c:Nat)(t:TypeId)(rest:List Value)(k b:List UInt8)(r:Nat)(w:World)(hb:Blk w G t (u8s b++rest))(hk:k.length=32)(hN:b.length=N)(h32:32<N)(hN2:N≤100000)(hc:N≤c)(hr:r=2∨r=4):
 Calls Tryz.prog 139 #[.slice (some ⟨G,0,none⟩) N c,.agg (u8s k).toArray,.int .i64 r] w fun e w'=>e=.returned (.tuple #[])∧Blk w' G t (u8s (Wd.turn k b r)++rest)∧Wrote G w w':=by
 have HT:Hid (Wd.turn k b r=Ch.xor (b.take 32) (Mc.tag k (b.drop 32))++b.drop 32):=by show _=_;unfold Wd.turn;rw[if_pos hr]
 have hbe:u8s b++rest=[]++(u8s (b.take 32)++(u8s (b.drop 32)++rest)):=by rw[List.nil_append,←as9,←zad,List.take_append_drop]
 have hll:(b.take 32).length=32:=by rw[List.length_take];omega
 have hrl:(b.drop 32).length=N-32:=by rw[List.length_drop,hN]
 rw[hbe]at hb
 have HRR:Hid (∀W,Blk W G t ([]++(u8s (b.take 32)++(u8s (b.drop 32)++rest)))→Rd W (some ⟨G,32,none⟩) (N-32) (u8s (b.drop 32))):=fun W h=>by
  have:=h.rd 32 (N-32) (by simp[zaa,hll,hrl]);rw[List.nil_append,List.drop_append_of_le_length (by rw[zaa,hll];exact lr),List.drop_of_length_le (by rw[zaa,hll];exact lr),List.nil_append,List.take_append_of_le_length (by rw[zaa,hrl];exact lr),tk (by rw[zaa,hrl];exact lr)]at this;exact this
 obtain⟨lf,hlf⟩:=ex9 (b.take 32);obtain⟨rt,hrt⟩:=ex9 (b.drop 32);rw[←hlf,←hrt]at HT hb HRR;rw[←hlf]at hll;rw[←hrt]at hrl
 have HTG:Hid (∀W K,Rd W (some ⟨K,0,none⟩) 32 (u8s k)→Rd W (some ⟨G,32,none⟩) (N-32) (u8s rt)→Calls Tryz.prog 127 #[.slice (some ⟨K,0,none⟩) 32 32,.slice (some ⟨W.heap.size,0,none⟩) 1 1] (W.alloc (.cells #[.slice (some ⟨G,32,none⟩) (N-32) (c-32)] 22)) fun e w'=>e=.returned (.agg (u8s (Mc.tag k rt)).toArray)∧Below (W.heap.size+1) (W.alloc (.cells #[.slice (some ⟨G,32,none⟩) (N-32) (c-32)] 22)) w'):=fun W K h1 h2=>by
  have:=zjb (some ⟨K,0,none⟩) 32 32 k (some ⟨W.heap.size,0,none⟩) 1 1 [rt] _ (h1.alloc _) om om (RdB.of_blk (ls:=[rt]) (Blk.new' (cs:=[.slice (some ⟨G,32,none⟩) (N-32) (c-32)]) (t:=22) rfl rfl) ⟨.of_rd (h2.alloc _) om,trivial⟩) om (by simp;omega)
  simpa using this
 have HTL:Hid ((Mc.tag k rt).length=32):=Mc.tag_len _ _;have HI2:Hid ((Tryz.prog.info? 23).map (·.size)=some (u8s (Mc.tag k rt)).length):=by rw[zaa,Mc.tag_len];exact hd24
 have HL2:Hid ((u8s (Mc.tag k rt)).length=(u8s (List.replicate 32 0)).length):=by show _=_;rw[zaa,Mc.tag_len];rfl
 have HO2:Hid (∀v∈u8s (Mc.tag k rt),v.oneCell'=true):=zac _;obtain⟨X,hX⟩:=ex9 (Mc.tag k rt);rw[←hX]at HTG HTL HI2 HL2 HO2 HT;obtain⟨S,hS⟩:=ex9 (u8s X);rw[←hS]at HTG HI2 HL2 HO2;have HS:=qh hS;have HB0:=qh hb;have hG:G<w.heap.size:=hb.lt;have HLL:=qh hll;have HKR:Hid (Rd (w.alloc (.cells (u8s k).toArray 23)) (some ⟨w.heap.size,0,none⟩) 32 (u8s k)):=by have h5:=(Blk.new w 23 (u8s k)).rdAll;rw[hk]at h5;exact h5
 obtain⟨U,hU⟩:=ex9 (u8s k);rw[←hU]at HKR ⊢;have hc1:(32:Int)≤(c:Int):=om;have hc2:¬c=32:=om;have hn1:(32:Int)≤(N:Int):=om;have HUE:=qh hU;clear hbe hlf hrt hrl hll hX hS hU hb hk
 have hrd:(((r:Int) == 2)=true∧(((r:Int) == 4)=false))∨(((r:Int) == 2)=false∧((r:Int) == 4)=true):=by
  rcases hr with rfl|rfl
  · exact .inl ⟨rfl,rfl⟩
  · exact .inr ⟨rfl,rfl⟩
 clear hr
 go_enter Tryz.func139, Tryz.ntmps139
 go_wp2_with fail
 go_quiet (fail)
 have HB1:Hid (Blk ((w.alloc (.cells U.toArray 23)).drewN nq) G t ([]++(u8s lf++(u8s rt++rest)))):=(HB0.out.alloc _).drewN nq;have HK1:Hid (Rd ((w.alloc (.cells U.toArray 23)).drewN nq) (some ⟨w.heap.size,0,none⟩) 32 (u8s k)):=by rw[←HUE.out];exact HKR.out.drewN nq
 have HE1:Hid (Below w.heap.size w ((w.alloc (.cells U.toArray 23)).drewN nq)):=Below.drewM ((Below.refl _ _).alloc lr _) nq;have hs1:w.heap.size<((w.alloc (.cells U.toArray 23)).drewN nq).heap.size:=by show w.heap.size<(w.alloc (.cells U.toArray 23)).heap.size;simp
 obtain⟨w1,hw1⟩:=ex9 ((w.alloc (.cells U.toArray 23)).drewN nq);rw[←hw1]at HB1 HK1 HE1 hs1 ⊢;clear hw1 HB0 HKR;have HR1:=qh (HRR.out _ HB1.out)
 rcases hrd with ⟨hq1,hq2⟩|⟨hq1,hq2⟩
 all_goals
   go_wp2_with (first
    | (go_at_call 127;(with_reducible refine(HTG.out w1 _ HK1.out HR1.out).mono ?_);rintro e w2 ⟨rfl,hB2⟩;have HE2:=qh ((HE1.out.alloc HE1.out.size _).trans (hB2.mono (Nat.le_trans HE1.out.size (Nat.le_succ _))));have HB2:=qh ((HB1.out.alloc _).below hB2 (Nat.lt_succ_of_lt HB1.out.lt));clear hB2)
    | (refine zab rfl 23 (.tmp 8) (.tmp 24) rfl w2.heap.size S rr rr 23 (u8s (List.replicate 32 0)) (by exact Blk.new' rfl rfl) HI2.out HO2.out HL2.out ?_;intro w3 hb3 ho3;have HE3:=qh (ho3.below (HE2.out.alloc HE2.out.size _) HE2.out.size (Nat.le_trans HE2.out.size sy));have HB3:=qal ho3 HB2 (by have:=HB2.out.lt;omega);have hgl:=HB2.out.lt;have HX3:Hid (Rd w3 (some ⟨w2.heap.size,0,none⟩) 32 (u8s X)):=(by have h5:=hb3;rw[HS.out]at h5;have h6:=h5.rdAll;rw[HTL.out]at h6;exact h6);clear hb3 ho3)
    | (go_at_call 164;(with_reducible refine(zl4 G 0 32 c t [] (u8s rt++rest) lf X (some ⟨w2.heap.size,0,none⟩) 32 w3 HB3.out rfl HLL.out HX3.out (fun _ ad e=>by injection e with e;subst e;show w2.heap.size≠G;omega) om).mono ?_);rintro e w4 ⟨rfl,hb4,hW4⟩;have HB4:=qh hb4;have HW4:=qh (Below.wroteOf HE3.out hW4);clear hb4 hW4))
   exact bodyPost_ret (results_none rfl _ _ _) rfl ⟨rfl,by rw[HT.out,zad,as9];exact HB4.out,HW4.out⟩
theorem zsp(G N c:Nat)(t:TypeId)(rest:List Value)(k b:List UInt8)(r:Nat)(w:World)(hb:Blk w G t (u8s b++rest))(hk:k.length=32)(hN:b.length=N)(h32:32<N)(hN2:N≤65536)(hc:N≤c)(hr:¬(r=2∨r=4)):
 Calls Tryz.prog 139 #[.slice (some ⟨G,0,none⟩) N c,.agg (u8s k).toArray,.int .i64 r] w fun e w'=>e=.returned (.tuple #[])∧Blk w' G t (u8s (Wd.turn k b r)++rest)∧Wrote G w w':=by
 have hbe:u8s b++rest=u8s (b.take 32)++(u8s (b.drop 32)++rest):=by rw[←as9,←zad,List.take_append_drop]
 have hll:(b.take 32).length=32:=by rw[List.length_take];omega
 have hrl:(b.drop 32).length=N-32:=by rw[List.length_drop,hN]
 have HT:Hid (Wd.turn k b r=b.take 32++Ch.xor (b.drop 32) (Ch.piece (Ch.xor k (b.take 32)) 0 (N-32))):=by show _=_;unfold Wd.turn;rw[if_neg hr,hrl]
 rw[hbe]at hb
 have HRL:Hid (∀W,Blk W G t (u8s (b.take 32)++(u8s (b.drop 32)++rest))→Rd W (some ⟨G,0,none⟩) 32 (u8s (b.take 32))):=fun W h=>by
  have:=h.rd 0 32 (by simp[zaa,hll]);rw[List.drop_zero,List.take_append_of_le_length (by rw[zaa,hll];exact lr),tk (by rw[zaa,hll];exact lr)]at this;exact this
 obtain⟨lf,hlf⟩:=ex9 (b.take 32);obtain⟨rt,hrt⟩:=ex9 (b.drop 32);rw[←hlf,←hrt]at HT hb HRL;rw[←hlf]at hll;rw[←hrt]at hrl;have hkl:(Ch.xor k lf).length=32:=by rw[Ch.xor_len _ _ om,hk]
 obtain⟨X,hX⟩:=ex9 (Ch.xor k lf);have HKX:Hid (Ch.xor k lf=X):=hX.symm;rw[←hX]at HT hkl;have HST:Hid (∀W K,Rd W (some ⟨K,0,none⟩) 32 (u8s X)→Calls Tryz.prog 130 #[.slice (some ⟨K,0,none⟩) 32 32,.int .i64 ((N-32:Nat):Int)] W fun e w'=>∃A' c',e=.returned (.tuple #[.slice A' (N-32) c',.int .i64 0])∧(N-32)≤c'∧w'.ownsRow W.heap.size 5 1 (.slice A' (N-32) c') (N-32) (u8s (Ch.piece X 0 (N-32)))∧Below W.heap.size W w'):=fun W K h1=>zic _ 32 X (N-32) W h1 om
 obtain⟨Z,hZ⟩:=ex9 (Ch.piece X 0 (N-32));rw[←hZ]at HST HT;have HB0:=qh hb;have hG:G<w.heap.size:=hb.lt;have HLL:=qh hll;have HRTL:=qh hrl;have HKL:=qh hk;have HXL:=qh hkl;have HKB:Hid (Blk (w.alloc (.cells (u8s k).toArray 23)) w.heap.size 23 ([]++(u8s k++[]))):=by rw[List.nil_append,List.append_nil];exact Blk.new w _ _
 obtain⟨U,hU⟩:=ex9 (u8s k);rw[←hU]at HKB ⊢;have hc1:(32:Int)≤(c:Int):=om;have hc2:¬c=32:=om;have hn1:(32:Int)≤(N:Int):=om;have HUE:=qh hU;have hrd1:((r:Int) == 2)=false:=by rw[beq_eq_false_iff_ne];omega
 have hrd2:((r:Int) == 4)=false:=by rw[beq_eq_false_iff_ne];omega
 have hM:0<N-32:=om;clear hbe hlf hrt hrl hll hX hZ hU hb hk hr hkl
 go_enter Tryz.func139, Tryz.ntmps139
 go_wp2_with fail
 go_quiet (fail)
 have HB1:Hid (Blk ((w.alloc (.cells U.toArray 23)).drewN nq) G t (u8s lf++(u8s rt++rest))):=(HB0.out.alloc _).drewN nq;have HK1:Hid (Blk ((w.alloc (.cells U.toArray 23)).drewN nq) w.heap.size 23 ([]++(u8s k++[]))):=by rw[←HUE.out];exact HKB.out.drewN nq
 have HE1:Hid (Below w.heap.size w ((w.alloc (.cells U.toArray 23)).drewN nq)):=Below.drewM ((Below.refl _ _).alloc lr _) nq;have hs1:w.heap.size<((w.alloc (.cells U.toArray 23)).drewN nq).heap.size:=by show w.heap.size<(w.alloc (.cells U.toArray 23)).heap.size;simp
 obtain⟨w1,hw1⟩:=ex9 ((w.alloc (.cells U.toArray 23)).drewN nq);rw[←hw1]at HB1 HK1 HE1 hs1 ⊢;clear hw1 HB0 HKB;have HR1:=qh (HRL.out _ HB1.out)
 go_wp2_with (first
  | (go_at_call 130;(with_reducible refine(HST.out w2 _ HK2R.out).mono ?_);rintro e w3 ⟨A',c',rfl,hc',hown3,hB3⟩;have HE3:=qtr HE2 hB3;have HB3:=qbl HB2 hB3;have HZ3:=qh (Rd.of_own hown3);have HAD:Hid (∀ad:Addr,A'=some ad→ad.block≠G):=(by obtain⟨g3,rfl,hg3,_,_⟩:=zb6 hown3 hM;intro ad e;injection e with e;subst e;show g3≠G;have:=HB2.out.lt;omega);clear hown3 hB3)
  | (go_at_call 164;(with_reducible refine(zl4 G 32 (N-32) (c-32) t (u8s lf) rest rt Z A' c' w3 HB3.out (by rw[zaa];exact HLL.out) HRTL.out HZ3.out (fun _=>HAD.out) om).mono ?_);rintro e w4 ⟨rfl,hb4,hW4⟩;have HB4:=qh hb4;have HW4:=qh (Below.wroteOf HE3.out hW4);clear hb4 hW4)
  | (go_at_call 164;(with_reducible refine(zl4 w.heap.size 0 32 32 23 [] [] k lf (some ⟨G,0,none⟩) c w1 HK1.out rfl HKL.out HR1.out (fun _ ad e=>by injection e with e;subst e;show G≠w.heap.size;omega) om).mono ?_);rintro e w2 ⟨rfl,hb2,hW2⟩;have HE2:=qh (Wrote.below hW2 HE1.out lr HE1.out.size);have HB2:=qh (HB1.out.wrote hW2 om);have HK2R:Hid (Rd w2 (some ⟨w.heap.size,0,none⟩) 32 (u8s X)):=(by have h5:=hb2;rw[List.nil_append,List.append_nil,HKX.out]at h5;have h6:=h5.rdAll;rw[HXL.out]at h6;exact h6);clear hb2 hW2))
 go_end0
 exact⟨rfl,by rw[HT.out,zad,as9];exact HB4.out,HW4.out⟩
theorem zsq(G N c:Nat)(t:TypeId)(rest:List Value)(k b:List UInt8)(r:Nat)(w:World)(hb:Blk w G t (u8s b++rest))(hk:k.length=32)(hN:b.length=N)(h32:32<N)(hN2:N≤65536)(hc:N≤c):
 Calls Tryz.prog 139 #[.slice (some ⟨G,0,none⟩) N c,.agg (u8s k).toArray,.int .i64 r] w fun e w'=>e=.returned (.tuple #[])∧Blk w' G t (u8s (Wd.turn k b r)++rest)∧Wrote G w w':=by
 by_cases hr:r=2∨r=4
 · exact zph G N c t rest k b r w hb hk hN h32 om hc hr
 · exact zsp G N c t rest k b r w hb hk hN h32 hN2 hc hr
theorem zlz{w:World}{base n c:Nat}{e:TypeId}{A:Option Addr}{xs:List Value}(h:w.ownsRow base e 1 (.slice A n c) n xs)(hn:0<n):∃g rest,A=some ⟨g,0,none⟩∧base≤g∧Blk w g e (xs++rest):=by
 rcases h.2 with ⟨_,h0⟩|⟨g,cap,cur,hv,hb,hg,hnc,_,hcs,htake⟩
 · omega
 · injection hv with hA
   subst hA;refine⟨g,cur.toList.drop n,rfl,hb,?_⟩
   unfold Blk
   rw[hg,←htake,Nat.mul_one,List.take_append_drop]
def labels4:List ByteArray:=[⟨#[119,105,100,101,49]⟩,⟨#[119,105,100,101,50]⟩,⟨#[119,105,100,101,51]⟩,⟨#[119,105,100,101,52]⟩]
theorem keys4(key:List UInt8):keysOf key labels4=Wd.derive key (Wd.label 1)++(Wd.derive key (Wd.label 2)++(Wd.derive key (Wd.label 3)++(Wd.derive key (Wd.label 4)++[]))):=rfl
theorem zt8(key:List UInt8)(q:Nat)(hq:q<4):((keysOf key labels4).drop (q*32)).take 32=Wd.derive key (Wd.label (q+1)):=by
 rw[keys4];have h1:=Wd.derive_len key (Wd.label 1);have h2:=Wd.derive_len key (Wd.label 2);have h3:=Wd.derive_len key (Wd.label 3);have h4:=Wd.derive_len key (Wd.label 4);obtain rfl|rfl|rfl|rfl:q=0∨q=1∨q=2∨q=3:=om
 · rw[Nat.zero_mul,List.drop_zero,List.take_append_of_le_length om,tk om]
 · rw[List.drop_append_of_le_length om,List.drop_of_length_le om,List.nil_append,List.take_append_of_le_length om,tk om]
 · rw[←as9,List.drop_append_of_le_length (by rw[la9];omega),List.drop_of_length_le (by rw[la9];omega),List.nil_append,List.take_append_of_le_length om,tk om]
 · rw[←as9,←as9,List.drop_append_of_le_length (by rw[la9,la9];omega),List.drop_of_length_le (by rw[la9,la9];omega),List.nil_append,List.take_append_of_le_length om,tk om]
def natsOf(l:List Nat):List Value:=l.map fun(r:Nat)=>Value.int .i64 (r:Int)
theorem zej{l:List Nat}{i r:Nat}{v:Value}(h:(natsOf l)[i]? = some v)(hr:l[i]? = some r):v=.int .i64 (r:Int):=by
 unfold natsOf at h
 rw[List.getElem?_map,hr]at h
 injection h with h
 exact h.symm
theorem zof(A B C:Option Addr)(c d N m cr:Nat)(key b:List UInt8)(rs:List Nat)(w:World)(h:Rd w A 32 (u8s key))(hc:32≤c)(h2:Rd w B N (u8s b))(hd:N≤d)(h3:Rd w C m (natsOf rs))(h32:32<N)(hN:N≤4096)(hm:m≤1000)(hrs:∀r∈rs,1≤r∧r≤4):
 Calls Tryz.prog 103 #[.slice A 32 c,.slice B N d,.slice C m cr] w fun e w'=>∃g c',e=.returned (.tuple #[.slice (some ⟨g,0,none⟩) N c',.int .i64 0])∧N≤c'∧w.heap.size≤g∧Rd w' (some ⟨g,0,none⟩) N (u8s (Wd.rounds key b rs))∧Below w.heap.size w w':=by
 have hrl:rs.length=m:=by have:=h3.1;simpa[natsOf] using this
 have hbl:b.length=N:=h2.len;have HRL:=qh hrl;have HRS:=qh hrs;have HR3:=qh h3;have HBL:=qh hbl;have hdv:=zi3 A 32 c key (some ⟨w.heap.size,0,none⟩) 4 4 labels4 (w.alloc (.cells #[.string ⟨#[119,105,100,101,49]⟩,.string ⟨#[119,105,100,101,50]⟩,.string ⟨#[119,105,100,101,51]⟩,.string ⟨#[119,105,100,101,52]⟩] 9)) (h.alloc _) hc om (Blk.rd (Blk.new' (cs:=strs labels4) (t:=9) rfl rfl) 0 4 lr) om om (by decide);have e1:(w.alloc (.cells #[.string ⟨#[119,105,100,101,49]⟩,.string ⟨#[119,105,100,101,50]⟩,.string ⟨#[119,105,100,101,51]⟩,.string ⟨#[119,105,100,101,52]⟩] 9)).heap.size=w.heap.size+1:=by simp
 rw[e1]at hdv;have HDV:=qh hdv
 have HJN:Hid (∀W:World,Rd W B N (u8s b)→Calls Tryz.prog 42 #[.slice (some ⟨W.heap.size,0,none⟩) 1 1] (W.alloc (.cells #[.slice B N d] 22)) fun e w'=>∃A' c',e=.returned (.slice A' N c')∧N≤c'∧w'.ownsRow (W.heap.size+1) 5 1 (.slice A' N c') N (u8s b)∧Below (W.heap.size+1) (W.alloc (.cells #[.slice B N d] 22)) w'):=fun W hr=>by
  have:=zd2 (some ⟨W.heap.size,0,none⟩) 1 1 [b] _ (RdB.of_blk (ls:=[b]) (Blk.new' (w:=W) (cs:=[.slice B N d]) (t:=22) rfl rfl) ⟨.of_rd (hr.alloc _) hd,trivial⟩) om b N sy hbl om;have e2:(W.alloc (.cells #[.slice B N d] 22)).heap.size=W.heap.size+1:=by simp
  rw[←e2];exact this
 have HF:=qh (fun W=>zuq B A N d c W om hN);have HR2:=qh h2;clear hrl hbl hrs h h2 h3 hdv e1
 go_enter Tryz.func103, Tryz.ntmps103
 go_wp2_with fail
 go_loopg [16] m (fun kk q wr=>∃i:Nat,i≤m∧kk=m-i∧q=.int .i64 i∧w=wr)
 case atStart=>exact⟨0,by omega,rfl,rfl,rfl⟩
 case round =>
  obtain⟨i,hi,hgk,rfl,rfl⟩:=hrel;have HGK:=qh hgk;clear hgk
  by_cases hlt:i<m
  · have hlt2:(i:Int)<(m:Int):=om
    obtain⟨r,hr⟩:∃r,rs[i]? = some r:=⟨_,ge9 (by rw[HRL.out];exact hlt)⟩;have hr14:=HRS.out r (mg9 hr);obtain⟨b1,off,u,rfl,hbl,HX,hcl⟩:=HR3.out.at_ hlt;have hu:=zej HX.out hr;subst hu;have hr1:¬(r:Int)<1:=om;have hr2:¬(4:Int)<(r:Int):=om;clear hr HX
    go_wp2_with fail
    go_roundg (m-(i+1))
    case measure=>have:=HGK.out;omega
    case rel=>exact⟨i+1,by omega,rfl,by go_num,rfl⟩
  · obtain rfl:i=m:=om
    have hlt2:¬(i:Int)<(i:Int):=om;clear HGK hlt hi
    go_wp2_with (first
     | (go_at_call 137;(with_reducible refine(HF.out _).mono ?_);rintro e w' ⟨rfl,rfl⟩)
     | (go_at_call 138;(with_reducible refine HDV.out.mono ?_);rintro e w2 ⟨gk2,rfl,hgk2,hk2,hB2⟩;have HB2:=qh (((Below.refl _ w).alloc lr _).trans (hB2.mono (Nat.le_succ _)));have HK2:=qh hk2;clear hk2 hB2)
     | (go_at_call 42;(with_reducible refine(HJN.out w2 (HR2.out.below HB2.out)).mono ?_);rintro e w3 ⟨A3,c3,rfl,hc3,hown3,hB3⟩;have HB3:=qh ((HB2.out.alloc HB2.out.size _).trans (hB3.mono (Nat.le_trans HB2.out.size (Nat.le_succ _))));have HK3:=qh ((HK2.out.alloc _).below hB3 (Nat.lt_succ_of_lt HK2.out.lt));have hlk:=HK2.out.lt;have HO3:=qh hown3;clear hown3 hB3))
    obtain⟨g,rest,rfl,hgg,hgb⟩:=zlz HO3.out om;have HG3:Hid (Blk w3 g 5 (u8s (Wd.rounds key b (rs.take 0))++rest)):=hgb;have hg0:w.heap.size≤g:=by have:=HB2.out.size;omega
    clear HB2 HK2 HO3 hgb
    go_loopg [39] i (fun kk q wr=>∃j:Nat,j≤i∧kk=i-j∧q=.int .i64 j∧Blk wr g 5 (u8s (Wd.rounds key b (rs.take j))++rest)∧Blk wr gk2 23 (u8s (keysOf key labels4))∧Below w.heap.size w wr)
    case atStart=>exact⟨0,by omega,rfl,rfl,HG3.out,HK3.out,HB3.out⟩
    case round =>
     clear HG3 HK3 HB3;obtain⟨j,hj,hgk,rfl,hb,hk,hB⟩:=hrel;have HGK:=qh hgk;clear hgk
     by_cases hlt:j<i
     · have hlt3:(j:Int)<(i:Int):=om
       obtain⟨r,hr⟩:∃r,rs[j]? = some r:=⟨_,ge9 (by rw[HRL.out];exact hlt)⟩;have hr14:=HRS.out r (mg9 hr);obtain⟨b1,off,u,rfl,hbl,HX,hcl⟩:=(HR3.out.below hB).at_ hlt;have hu:=zej HX.out hr;subst hu;obtain⟨q,hq⟩:∃q,r=q+1:=⟨r-1,by omega⟩;have hqi:(r:Int)-1=(q:Int):=om;have hq0:(0:Int)≤(q:Int):=om;have hq4:(q:Int)<4:=om;have hk4:=zt8 key q om;rw[←hq]at hk4;have hdl:=Wd.derive_len key (Wd.label r)
       have HSN:Hid (Wd.rounds key b (rs.take (j+1))=Wd.turn (Wd.derive key (Wd.label r)) (Wd.rounds key b (rs.take j)) r):=by
        show _=_
        rw[List.take_add_one,hr];exact Wd.rounds_snoc _ _ _ _
       have hrn:(Wd.rounds key b (rs.take j)).length=N:=by rw[Wd.rounds_len _ _ _ (by rw[HBL.out];omega),HBL.out]
       obtain⟨D,hD⟩:=ex9 (Wd.derive key (Wd.label r));rw[←hD]at hk4 hdl HSN
       have HRG:Hid (wr.rangeAt gk2 (q*32) (u8s D)):=hk.mid (q*32) (u8s D) (fun jj v hv=>by
        rw[←hk4,←zav,←zbd,List.getElem?_take]at hv
        split at hv
        · rw[List.getElem?_drop]at hv;exact hv
        · cases hv)
       have HI2:Hid ((Tryz.prog.info? 23).map (·.size)=some (u8s D).length):=by rw[zaa,hdl];exact hd24
       have HTN:=qh (zsq g N c3 5 rest D (Wd.rounds key b (rs.take j)) r wr hb hdl hrn h32 om hc3);rw[←HSN.out]at HTN;obtain⟨DU,hDU⟩:=ex9 (u8s D);rw[←hDU]at HRG HI2 HTN;have HK:=qh hk;have HBE:=qh hB;have hgne:gk2≠g:=om;have hgl:=hb.lt;have hkl:=hk.lt;clear hr hD hDU hk4 hdl hrn hb hk hB HX hq
       go_wp2_with (first
        | refine wpList_load_mid rfl 23 (.tmp 47) rfl gk2 (q*32) rr DU _ HRG.out Tryz.underlying23 rfl HI2.out ?_
        | (go_at_call 139;(with_reducible refine HTN.out.mono ?_);rintro e w5 ⟨rfl,hb5,hW5⟩;have HB5:=qh hb5;have HK5:=qh (HK.out.wrote hW5 hgne);have HE5:=qh (Wrote.below hW5 HBE.out hg0 HBE.out.size);clear hb5 hW5))
       go_roundg (i-(j+1))
       case measure=>have:=HGK.out;omega
       case rel=>exact⟨j+1,by omega,rfl,by go_num,HB5.out,HK5.out,HE5.out⟩
     · obtain rfl:j=i:=om
       have hrn:(Wd.rounds key b rs).length=N:=by rw[Wd.rounds_len _ _ _ (by rw[HBL.out];omega),HBL.out]
       rw[tk (by rw[HRL.out];exact lr)]at hb
       have HRD:Hid (Rd wr (some ⟨g,0,none⟩) N (u8s (Wd.rounds key b rs))):=by
        have h5:=hb.rd 0 N (by rw[la9,zaa,hrn];omega);rw[List.drop_zero,List.take_append_of_le_length (by rw[zaa,hrn];exact lr),tk (by rw[zaa,hrn];exact lr)]at h5;exact h5
       clear hrn hb
       go_wp2_with fail
       go_ret2;exact⟨g,c3,rfl,hc3,hg0,HRD.out,hB⟩
theorem nats4(w:World)(a b c d:Nat):Rd (w.alloc (.cells #[.int .i64 (a:Int),.int .i64 (b:Int),.int .i64 (c:Int),.int .i64 (d:Int)] 3)) (some ⟨w.heap.size,0,none⟩) 4 (natsOf [a,b,c,d]) :=
 Blk.rd (Blk.new' (cs:=natsOf [a,b,c,d]) (t:=3) rfl rfl) 0 4 lr
theorem zsy(A B:Option Addr)(c d N:Nat)(key b:List UInt8)(w:World)(h:Rd w A 32 (u8s key))(hc:32≤c)(h2:Rd w B N (u8s b))(hd:N≤d)(h32:32<N)(hN:N≤4096):
 Calls Tryz.prog 69 #[.slice A 32 c,.slice B N d] w fun e w'=>∃g c',e=.returned (.tuple #[.slice (some ⟨g,0,none⟩) N c',.int .i64 0])∧N≤c'∧w.heap.size≤g∧Rd w' (some ⟨g,0,none⟩) N (u8s (Wd.seal_ key b))∧Below w.heap.size w w':=by
 have hr:=zof A B (some ⟨w.heap.size,0,none⟩) c d N 4 4 key b [1,2,3,4] _ (h.alloc _) hc (h2.alloc _) hd (nats4 w 1 2 3 4) h32 hN om (by decide);have e2:(w.alloc (.cells #[.int .i64 ((1:Nat):Int),.int .i64 ((2:Nat):Int),.int .i64 ((3:Nat):Int),.int .i64 ((4:Nat):Int)] 3)).heap.size=w.heap.size+1:=by simp
 rw[e2]at hr;have HR:Hid (Calls Tryz.prog 103 #[.slice A 32 c,.slice B N d,.slice (some ⟨w.heap.size,0,none⟩) 4 4] (w.alloc (.cells #[.int .i64 1,.int .i64 2,.int .i64 3,.int .i64 4] 3)) fun e w'=>∃g c',e=.returned (.tuple #[.slice (some ⟨g,0,none⟩) N c',.int .i64 0])∧N≤c'∧w.heap.size+1≤g∧Rd w' (some ⟨g,0,none⟩) N (u8s (Wd.seal_ key b))∧Below (w.heap.size+1) (w.alloc (.cells #[.int .i64 1,.int .i64 2,.int .i64 3,.int .i64 4] 3)) w'):=hr;clear h h2 hr e2
 go_enter Tryz.func69, Tryz.ntmps69
 go_wp2_with (go_at_call 103;(with_reducible refine HR.out.mono ?_);rintro e w1 ⟨g,c',rfl,hc',hg,hr1,hB⟩;have HR1:=qh hr1;clear hr1)
 go_ret2;exact⟨g,c',rfl,hc',by omega,HR1.out,((Below.refl _ _).alloc lr _).trans (hB.mono (Nat.le_succ _))⟩
def sealAll(ks:List (List UInt8))(b:List UInt8):List UInt8:=ks.foldl (fun b k=>Wd.seal_ k b) b
theorem zkl(ks:List (List UInt8))(k b:List UInt8):sealAll (ks++[k]) b=Wd.seal_ k (sealAll ks b):=by simp[sealAll]
theorem zeq(ks:List (List UInt8))(b:List UInt8)(h:32≤b.length):(sealAll ks b).length=b.length:=by
 induction ks generalizing b with
 | nil=>rfl
 | cons k ks ih =>
  show(sealAll ks (Wd.seal_ k b)).length=_
  rw[ih _ (by rw[Wd.seal_len _ _ h];exact h),Wd.seal_len _ _ h]
theorem zfw{ks:List (List UInt8)}{j:Nat}{k:List UInt8}(b:List UInt8)(h:ks[j]? = some k):sealAll (ks.take (j+1)) b=Wd.seal_ k (sealAll (ks.take j) b):=by
 rw[List.take_add_one,h];exact zkl _ _ _
theorem zu1(B C:Option Addr)(d N m cr:Nat)(b:List UInt8)(ks:List (List UInt8))(w:World)(h:Rd w B N (u8s b))(hd:N≤d)(h3:RdB w C m ks)(hks:∀k∈ks,k.length=32)(h32:32<N)(hN:N≤4096)(hm:m≤1000):
 Calls Tryz.prog 98 #[.func (.func 69) #[] #[],.slice B N d,.slice C m cr] w fun e w'=>∃A' c',e=.returned (.tuple #[.slice A' N c',.int .i64 0])∧N≤c'∧Rd w' A' N (u8s (sealAll ks b))∧Below w.heap.size w w':=by
 have hkl:ks.length=m:=by obtain⟨_,_,h,_⟩:=h3;exact h
 have HKL:=qh hkl;have HKS:=qh hks;have HR:=qh h;have HR3:=qh h3;have HF:=qh (fun W=>zff B N d W om hN)
 have HJN:Hid (∀W:World,Rd W B N (u8s b)→Calls Tryz.prog 42 #[.slice (some ⟨W.heap.size,0,none⟩) 1 1] (W.alloc (.cells #[.slice B N d] 22)) fun e w'=>∃A' c',e=.returned (.slice A' N c')∧N≤c'∧w'.ownsRow (W.heap.size+1) 5 1 (.slice A' N c') N (u8s b)∧Below (W.heap.size+1) (W.alloc (.cells #[.slice B N d] 22)) w'):=fun W hr=>by
  have:=zd2 (some ⟨W.heap.size,0,none⟩) 1 1 [b] _ (RdB.of_blk (ls:=[b]) (Blk.new' (w:=W) (cs:=[.slice B N d]) (t:=22) rfl rfl) ⟨.of_rd (hr.alloc _) hd,trivial⟩) om b N sy h.len om;have e2:(W.alloc (.cells #[.slice B N d] 22)).heap.size=W.heap.size+1:=by simp
  rw[←e2];exact this
 clear h h3 hks hkl
 go_enter Tryz.func98, Tryz.ntmps98
 go_wp2_with (go_at_call 134;(with_reducible refine(HF.out _).mono ?_);rintro e w' ⟨rfl,rfl⟩)
 go_loopg [20] m (fun kk q wr=>∃i:Nat,i≤m∧kk=m-i∧q=.int .i64 i∧w=wr)
 case atStart=>exact⟨0,by omega,rfl,rfl,rfl⟩
 case round =>
  obtain⟨i,hi,hgk,rfl,rfl⟩:=hrel;have HGK:=qh hgk;clear hgk
  by_cases hlt:i<m
  · have hlt2:(i:Int)<(m:Int):=om
    obtain⟨g,off,A1,n1,c1,l,rfl,hb,HL,hcl,hnc,hr1⟩:=HR3.out.at_ hlt;obtain rfl:n1=32:=by rw[←hr1.len];exact HKS.out l (mg9 HL.out)
    clear HL hr1
    go_wp2_with fail
    go_roundg (m-(i+1))
    case measure=>have:=HGK.out;omega
    case rel=>exact⟨i+1,by omega,rfl,by go_num,rfl⟩
  · obtain rfl:i=m:=om
    have hlt2:¬(i:Int)<(i:Int):=om;clear HGK hlt hi
    go_wp2_with (go_at_call 42;(with_reducible refine(HJN.out _ HR.out).mono ?_);rintro e w3 ⟨A3,c3,rfl,hc3,hown3,hB3⟩;have HE3:=qh (((Below.refl _ w).alloc lr _).trans (hB3.mono (Nat.le_succ _)));have HR4:=qh (Rd.of_own hown3);clear hown3 hB3)
    go_loopg [10,33] i (fun kk v q wr=>∃j:Nat,j≤i∧kk=i-j∧q=.int .i64 j∧(∃A' c',v=.slice A' N c'∧N≤c'∧Rd wr A' N (u8s (sealAll (ks.take j) b)))∧Below w.heap.size w wr)
    case atStart=>exact⟨0,by omega,rfl,rfl,⟨A3,c3,rfl,hc3,HR4.out⟩,HE3.out⟩
    case round =>
     clear HR4 HE3;obtain⟨j,hj,hgk,rfl,⟨A',c',rfl,hc',hr'⟩,hB⟩:=hrel;have HGK:=qh hgk;clear hgk
     by_cases hlt:j<i
     · have hlt3:(j:Int)<(i:Int):=om
       obtain⟨g,off,A1,n1,c1,l,rfl,hb,HL,hcl,hnc,hr1⟩:=(HR3.out.below hB).at_ hlt;obtain rfl:n1=32:=by rw[←hr1.len];exact HKS.out l (mg9 HL.out)
       have HSN:=qh (zfw b HL.out);have HSE:=qh (zsy A1 A' c1 c' N l (sealAll (ks.take j) b) wr hr1 hnc hr' hc' h32 hN);rw[←HSN.out]at HSE;have HBE:=qh hB;clear HL hr1 hr' hB HSN
       go_wp2_with (go_at_call 69;(with_reducible refine HSE.out.mono ?_);rintro e w5 ⟨g5,c5,rfl,hc5,hg5,hr5,hB5⟩;have HR5:=qh hr5;have HE5:=qtr HBE hB5;clear hr5 hB5 hg5)
       go_roundg (i-(j+1))
       case measure=>have:=HGK.out;omega
       case rel=>exact⟨j+1,by omega,rfl,by go_num,⟨_,c5,rfl,hc5,HR5.out⟩,HE5.out⟩
     · obtain rfl:j=i:=om
       have hlt3:¬(j:Int)<(j:Int):=om;rw[tk (Nat.le_of_eq HKL.out)]at hr';have HRR:=qh hr';clear hr'
       go_wp2_with fail
       go_ret2;exact⟨A',c',rfl,hc',HRR.out,hB⟩
theorem zlj(B C:Option Addr)(d N m cr:Nat)(b:List UInt8)(ks:List (List UInt8))(w:World)(h:Rd w B N (u8s b))(hd:N≤d)(h3:RdB w C m ks)(hks:∀k∈ks,k.length=32)(h32:32<N)(hN:N≤4096)(hm:m≤1000):
 Calls Tryz.prog 63 #[.slice B N d,.slice C m cr] w fun e w'=>∃A' c',e=.returned (.tuple #[.slice A' N c',.int .i64 0])∧N≤c'∧Rd w' A' N (u8s (sealAll ks b))∧Below w.heap.size w w':=by
 have HA:=qh (zu1 B C d N m cr b ks w h hd h3 hks h32 hN hm);clear h h3 hks
 go_enter Tryz.func63, Tryz.ntmps63
 go_wp2_with (go_at_call 98;(with_reducible refine HA.out.mono ?_);rintro e w5 ⟨A5,c5,rfl,hc5,hr5,hB5⟩;have HR5:=qh hr5;clear hr5)
 go_ret2;exact⟨A5,c5,rfl,hc5,HR5.out,hB5⟩
end Go.Proofs.YtpgpaenloaphaaaGreat
