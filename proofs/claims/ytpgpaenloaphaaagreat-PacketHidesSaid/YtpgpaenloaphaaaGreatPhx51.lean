/- Part of the proof: FrE, R11, R12, Snd. -/
import Derived.Test.YtpgpaenloaphaaaGreatPhx50
set_option maxRecDepth 100000
set_option maxHeartbeats 16000000
namespace Go.Proofs.YtpgpaenloaphaaaGreat
open Go.RowKit
theorem zmn(A:Option Addr)(n c:Nat)(w:World)(hn:n=0):
 Calls Tryz.prog 101 #[.agg #[.int .u8 2,.int .u64 0,.int .i64 0,.int .i64 1,.slice A n c]] w fun e w'=>e=.returned (.int .i64 0)∧Below w.heap.size w w':=by
 subst hn
 go_enter Tryz.func101, Tryz.ntmps101
 go_wp2_with fail
 go_ret;exact⟨rfl,(Below.refl _ _).alloc lr _⟩
theorem zmg(A:Option Addr)(n c:Nat)(d:List UInt8)(w:World)(h:Rd w A n (u8s d))(hn:n≤450)(hn0:n=0):
 Calls Tryz.prog 68 #[.agg #[.int .u8 2,.int .u64 0,.int .i64 0,.int .i64 1,.slice A n c]] w fun e w'=>∃g,e=.returned (.tuple #[.slice (some ⟨g,0,none⟩) 480 480,.int .i64 0])∧w.heap.size≤g∧Blk w' g 5 (u8s (Wd.frame 2 0 1 0 d))∧Below w.heap.size w w':=by
 have hdl:d.length=n:=h.len;have hn2:(n:Int)≤450:=om;have HP8:Hid (∀W,Calls Tryz.prog 102 #[.int .i64 2,.int .i64 8,.int .u64 0] W fun e w'=>e=.returned (.tuple #[.slice (some ⟨W.heap.size,0,none⟩) 8 8,.int .i64 0])∧Blk w' W.heap.size 5 (u8s (Sh.beBytes 0 8))∧Below W.heap.size W w'):=fun W=>put_8 0 W om
 have HP2:=qh (fun W=>put_2 n W om om);have HCK:=qh (fun W=>zmn A n c W hn0);have HFP:=qh (zhx 2 0 1 (Sh.beBytes 0 8) (Sh.beBytes n 2) d (beBytes_len _ _) (beBytes_len _ _) om);have HFE:Hid (Wd.frame 2 0 1 0 d=Ch.zeros 16++([2,0,1,0]++(Sh.beBytes 0 8++(Sh.beBytes n 2++(d++Ch.zeros (450-d.length)))))):=by show _=_;unfold Wd.frame;rw[hdl]
 have HT8:Hid ((u8s (Sh.beBytes 0 8)).take 460=u8s (Sh.beBytes 0 8)):=tk (by rw[zaa,beBytes_len];omega);have HT2:Hid ((u8s (Sh.beBytes n 2)).take 452=u8s (Sh.beBytes n 2)):=tk (by rw[zaa,beBytes_len];omega);have HTD:Hid ((u8s d).take 450=u8s d):=tk (by rw[zaa];omega);obtain⟨b8,h8⟩:=ex9 (Sh.beBytes 0 8);obtain⟨b2,h2⟩:=ex9 (Sh.beBytes n 2);have HL8:Hid ((Sh.beBytes 0 8).length=8):=beBytes_len _ _;have HL2:Hid ((Sh.beBytes n 2).length=2):=beBytes_len _ _;rw[←h8]at HP8 HFP HFE HT8 HL8;rw[←h2]at HP2 HFP HFE HT2 HL2;have HLZ6:Hid ((splice ((((rep 480 (0:UInt8)).set 16 2).set 17 0).set 18 1) 20 b8).length=480):=by show _=_;rw[length_splice _ _ _ (by rw[HL8.out];decide)];rfl
 have HLZ7:Hid ((splice (splice ((((rep 480 (0:UInt8)).set 16 2).set 17 0).set 18 1) 20 b8) 28 b2).length=480):=by show _=_;rw[length_splice _ _ _ (by rw[HL2.out,HLZ6.out];omega),HLZ6.out]
 have HR:=qh h;clear h hdl h8 h2 hn0
 go_enter Tryz.func68, Tryz.ntmps68
 go_wp2_with (first
  | (go_at_call 101;(with_reducible refine(HCK.out _).mono ?_);rintro e w1 ⟨rfl,hB1⟩;have HBP1:=qh ((Blk.new' (w:=w) (cs:=[.int .u8 2,.int .u64 0,.int .i64 0,.int .i64 1,.slice A n c]) (t:=92) rfl rfl).below hB1 sy);have HE1:=qh (((Below.refl _ w).alloc lr _).trans (hB1.mono sy));have p10:=HBP1.out.cell 0;have p11:=HBP1.out.cell 1;have p12:=HBP1.out.cell 2;have p13:=HBP1.out.cell 3;have p14:=HBP1.out.cell 4;simp only[List.getElem?_cons_zero,List.getElem?_cons_succ]at p10 p11 p12 p13 p14;clear hB1)
  | (go_at_call 102;(with_reducible refine(HP2.out w2).mono ?_);rintro e w3 ⟨rfl,hb3,hB3⟩;have HBP3:=qbl HBP2 hB3;have HE3:=qtr HE2 hB3;have HI83:=qbl HI82 hB3;have HI23:=qh hb3;have q12:=HBP3.out.cell 0;have q13:=HBP3.out.cell 2;have q14:=HBP3.out.cell 3;have q15:=HBP3.out.cell 4;simp only[List.getElem?_cons_zero,List.getElem?_cons_succ]at q12 q13 q14 q15;have hs0:w.heap.size<w1.heap.size:=HBP1.out.lt;have hs1:w1.heap.size<w2.heap.size:=HI82.out.lt;have hs2:w2.heap.size<w3.heap.size:=HI23.out.lt;clear hB3 hb3)
  | (go_at_call 102;(with_reducible refine(HP8.out w1).mono ?_);rintro e w2 ⟨rfl,hb2,hB2⟩;have HBP2:=qbl HBP1 hB2;have HE2:=qtr HE1 hB2;have HI82:=qh hb2;have q24:=HBP2.out.cell 4;simp only[List.getElem?_cons_zero,List.getElem?_cons_succ]at q24;clear hB2 hb2)
  | (refine zaj rfl (.const (.int .i64 480)) (.const (.int .i64 480)) 22 rfl 5 (.int .u8 0) 1 Tryz.underlying22 iU8 rfl .i64 .i64 480 480 rr rr 480 480 rfl rfl om om om ?_;intro w4 hb4 hg4 hs4;have HZ4:Hid (Blk w4 w3.heap.size 5 (u8s (rep 480 0))):=hb4;have z16:w4.cell? ⟨w3.heap.size,16,none⟩=some (.int .u8 0):=(hb4.cell 16).trans (zc7 om);have z17:w4.cell? ⟨w3.heap.size,17,none⟩=some (.int .u8 0):=(hb4.cell 17).trans (zc7 om);have z18:w4.cell? ⟨w3.heap.size,18,none⟩=some (.int .u8 0):=(hb4.cell 18).trans (zc7 om);have f16:=hb4.frozen 16;have f17:=hb4.frozen 17;have f18:=hb4.frozen 18;have r12:=((zad hg4).cell (p:=⟨w.heap.size,0,none⟩) (by show w.heap.size<w3.heap.size;omega)).trans q12;have r13:=((zad hg4).cell (p:=⟨w.heap.size,2,none⟩) (by show w.heap.size<w3.heap.size;omega)).trans q13;have r14:=((zad hg4).cell (p:=⟨w.heap.size,3,none⟩) (by show w.heap.size<w3.heap.size;omega)).trans q14;have HBP4:=qh (((((HBP3.out.below (zad hg4) HBP3.out.lt).far (p:=⟨w3.heap.size,16,none⟩) (by show _≠w3.heap.size;omega) (.int .u8 2)).far (p:=⟨w3.heap.size,17,none⟩) (by show _≠w3.heap.size;omega) (.int .u8 0)).far (p:=⟨w3.heap.size,18,none⟩) (by show _≠w3.heap.size;omega) (.int .u8 1)));have HI84:=qh (((((HI83.out.below (zad hg4) HI83.out.lt).far (p:=⟨w3.heap.size,16,none⟩) (by show _≠w3.heap.size;omega) (.int .u8 2)).far (p:=⟨w3.heap.size,17,none⟩) (by show _≠w3.heap.size;omega) (.int .u8 0)).far (p:=⟨w3.heap.size,18,none⟩) (by show _≠w3.heap.size;omega) (.int .u8 1)));have HI24:=qh (((((HI23.out.below (zad hg4) HI23.out.lt).far (p:=⟨w3.heap.size,16,none⟩) (by show _≠w3.heap.size;omega) (.int .u8 2)).far (p:=⟨w3.heap.size,17,none⟩) (by show _≠w3.heap.size;omega) (.int .u8 0)).far (p:=⟨w3.heap.size,18,none⟩) (by show _≠w3.heap.size;omega) (.int .u8 1)));have HE4:=qh ((((HE3.out.trans ((zad hg4).mono HE3.out.size)).setCell (p:=⟨w3.heap.size,16,none⟩) (by show _≤w3.heap.size;omega) (.int .u8 2)).setCell (p:=⟨w3.heap.size,17,none⟩) (by show _≤w3.heap.size;omega) (.int .u8 0)).setCell (p:=⟨w3.heap.size,18,none⟩) (by show _≤w3.heap.size;omega) (.int .u8 1));have HZ5:Hid (Blk (((w4.setCell ⟨w3.heap.size,16,none⟩ (.int .u8 2)).setCell ⟨w3.heap.size,17,none⟩ (.int .u8 0)).setCell ⟨w3.heap.size,18,none⟩ (.int .u8 1)) w3.heap.size 5 (u8s ((((rep 480 (0:UInt8)).set 16 2).set 17 0).set 18 1))):=(by have h5:=((HZ4.out.set_ 16 (.int .u8 2)).set_ 17 (.int .u8 0)).set_ 18 (.int .u8 1);rw[show(Value.int .u8 2)=.int .u8 ((2:UInt8).toNat) from rfl,show(Value.int .u8 0)=.int .u8 ((0:UInt8).toNat) from rfl,show(Value.int .u8 1)=.int .u8 ((1:UInt8).toNat) from rfl,za6,za6,za6]at h5;exact h5);have HR84:=qh HI84.out.rdAll;rw[HL8.out]at HR84;clear hb4 hg4 hs4)
  | (refine za3 rfl (.tmp 50) (.tmp 51) 22 rfl 5 Tryz.underlying22 zbn w3.heap.size 20 460 460 rr (some ⟨w1.heap.size,0,none⟩) 8 8 rr 5 _ HZ5.out (u8s b8) (by exact HR84.out) (zac _) (by rw[zaa];exact Nat.le_of_eq rfl) ?_;intro w5 hb5 ho5;have HZ6:=qh hb5;rw[HT8.out,zcl]at HZ6;have HI25:=qh (ho5.blk HI24.out om);have HBP5:=qh (ho5.blk HBP4.out om);have HE5:=qh (ho5.below HE4.out om HE4.out.size);have HR25:=qh HI25.out.rdAll;rw[HL2.out]at HR25;clear hb5 ho5)
  | (refine za3 rfl (.tmp 54) (.tmp 55) 22 rfl 5 Tryz.underlying22 zbn w3.heap.size 28 452 452 rr (some ⟨w2.heap.size,0,none⟩) 2 2 rr 5 _ HZ6.out (u8s b2) (by exact HR25.out) (zac _) (by rw[zaa,HLZ6.out];exact lr) ?_;intro w6 hb6 ho6;have HZ7:=qh hb6;rw[HT2.out,zcl]at HZ7;have HBP6:=qh (ho6.blk HBP5.out om);have HE6:=qh (ho6.below HE5.out om HE5.out.size);clear hb6 ho6))
 have p64:=HBP6.out.cell 4;simp only[List.getElem?_cons_zero,List.getElem?_cons_succ]at p64;have HRD6:Hid (Rd w6.drew A n (u8s d)):=HR.out.below HE6.out.drew;clear p10 p11 p12 p13 p14 q12 q13 q14 q15 q24 r12 r13 r14 z16 z17 z18 f16 f17 f18
 go_region_held3 (fun W'=>W'.cell? ⟨w.heap.size,4,none⟩=some (.slice A n c)) (first|assumption|exact p64|exact p7) ((refine zcu rfl (.tmp 58) (.tmp 60) 22 rfl 5 Tryz.underlying22 zbn w3.heap.size 30 450 450 rr A n c rr 5 _ (by exact HZ7.out.drew) (u8s d) (by exact HRD6.out) (zac _) (by rw[zaa,HLZ7.out];exact lr) ?_;intro w7 hb7 ho7;have p7:=((ho7.blk HBP6.out.drew om).cell 4);simp only[List.getElem?_cons_zero,List.getElem?_cons_succ]at p7))
 rw[HTD.out,zcl,HFP.out,←HFE.out]at hb7;have HE7:=qh (ho7.below HE6.out.drew om HE6.out.size);have HB7:=qh hb7;clear hb7 ho7 p64
 go_wp2_with fail
 go_ret2;exact⟨w3.heap.size,rfl,by omega,HB7.out,HE7.out⟩
theorem zlg(l:List UInt8)(k:Nat)(x y:UInt8)(h:k+1<l.length):splice l k [x,y]=(l.set k x).set (k+1) y:=by
 rw[zdx _ _ _ _ om,zdx _ _ _ _ (by rw[List.length_set];omega)]
 unfold splice
 simp
def frS(k i c:UInt8)(id j:Nat):List UInt8:=(Ch.zeros 16++[k,i,c,0])++(((Sh.beBytes id 8).take j++rep (8-j) 0)++rep 452 0)
theorem frS_0(k i c:UInt8)(id:Nat):(((rep 480 (0:UInt8)).set 16 k).set 17 i).set 18 c=frS k i c id 0:=rfl
theorem zex(k i c:UInt8):(Ch.zeros 16++[k,i,c,0]).length=20:=rfl
theorem be8_at(id j:Nat)(h:j<8):(Sh.beBytes id 8)[j]? = some (UInt8.ofNat (id/256^(7-j))):=by
 obtain rfl|rfl|rfl|rfl|rfl|rfl|rfl|rfl:j=0∨j=1∨j=2∨j=3∨j=4∨j=5∨j=6∨j=7:=om
 all_goals rfl
theorem zxn(k i c:UInt8)(id j:Nat)(h:j<8):(u8s (frS k i c id j))[20+j]? = some (.int .u8 0):=by
 rw[u8s_getElem?,frS,List.getElem?_append_right (by rw[zex];omega),zex,Nat.add_sub_cancel_left,List.getElem?_append_left (by rw[la9,List.length_take,beBytes_len,zav];omega),List.getElem?_append_right (by rw[List.length_take,beBytes_len];omega),List.length_take,beBytes_len,Nat.min_eq_left om,Nat.sub_self,zc7 om]
 rfl
theorem zxl(k i c:UInt8)(id j:Nat)(h:j<8):(frS k i c id j).set (20+j) (UInt8.ofNat (id/256^(7-j)))=frS k i c id (j+1):=by
 have hl:((Sh.beBytes id 8).take j).length=j:=by rw[List.length_take,beBytes_len];omega
 unfold frS
 rw [List.set_append_right _ _ (by rw[zex];omega),zex,Nat.add_sub_cancel_left,List.set_append_left _ _ (by rw[la9,hl,zav];omega),List.set_append_right _ _ (by rw[hl];exact lr),hl,Nat.sub_self,
   show 8-j=(8-(j+1))+1 by omega]
 have e:rep (8-(j+1)+1) (0:UInt8)=0 :: rep (8-(j+1)) 0:=by unfold rep;rw[List.replicate_succ]
 rw[e,List.set_cons_zero,List.take_add_one,be8_at id j h]
 simp
theorem frS_8(k i c:UInt8)(id:Nat):frS k i c id 8=(Ch.zeros 16++[k,i,c,0])++(Sh.beBytes id 8++rep 452 0):=by
 unfold frS
 rw[tk (by rw[beBytes_len];exact lr),show rep (8-8) (0:UInt8)=[] from rfl,List.append_nil]
theorem zx7(id j:Nat)(h:j<8):Value.int .u8 ((id:Int)/2^(56-8*j)%256)=.int .u8 ((UInt8.ofNat (id/256^(7-j))).toNat:Int):=by
 have e:256^(7-j)=2^(56-8*j):=by
  rw[show(256:Nat)=2^8 from rfl,←Nat.pow_mul]
  congr 1
  omega
 rw[UInt8.toNat_ofNat',e,Int.natCast_emod,Int.natCast_ediv,Int.natCast_pow]
 rfl
theorem zr7(k i c:UInt8)(id:Nat)(d:List UInt8)(hd:d.length≤450):splice (((frS k i c id 8).set 28 (UInt8.ofNat (d.length/256))).set 29 (UInt8.ofNat (d.length%256))) 30 d=Wd.frame k i c id d:=by
 have h:=zhx k i c (Sh.beBytes id 8) (Sh.beBytes d.length 2) d (beBytes_len _ _) (beBytes_len _ _) hd
 have e8:splice ((((rep 480 (0:UInt8)).set 16 k).set 17 i).set 18 c) 20 (Sh.beBytes id 8)=frS k i c id 8:=by
  rw[frS_8,zk4];have e1:=zdp (Ch.zeros 16++[k,i,c,0]) (rep 8 0) (Sh.beBytes id 8) (rep 452 0) (by rw[beBytes_len];rfl);rw[zex]at e1;rw[e1,List.append_assoc]
 have e2:Sh.beBytes d.length 2=[UInt8.ofNat (d.length/256),UInt8.ofNat (d.length%256)]:=by
  show [UInt8.ofNat (d.length/256^1),UInt8.ofNat (d.length/256^0)]=_
  have e:UInt8.ofNat (d.length/256^0)=UInt8.ofNat (d.length%256):=by
   apply UInt8.toNat_inj.1
   rw[UInt8.toNat_ofNat',UInt8.toNat_ofNat',Nat.pow_zero,Nat.div_one];omega
  rw[e,Nat.pow_one]
 have hl:(frS k i c id 8).length=480:=by rw[frS_8];simp[Ch.zeros,beBytes_len,zav]
 rw[e8]at h
 unfold Wd.frame
 rw[←h,e2,zlg _ _ _ _ (by rw[hl];omega)]
theorem zxm(k i c:UInt8)(id:Nat):(frS k i c id 8).length=480:=by rw[frS_8];simp[Ch.zeros,beBytes_len,zav]
theorem frS_z(k i c:UInt8)(id j:Nat)(hj:j=28∨j=29):(u8s (frS k i c id 8))[j]? = some (.int .u8 0):=by
 rw[u8s_getElem?,frS_8,←List.append_assoc,List.getElem?_append_right (by rw[la9,zex,beBytes_len];omega),zc7 (by rw[la9,zex,beBytes_len];omega)]
 rfl
theorem zoi(A:Option Addr)(n cp k id i c:Nat)(d:List UInt8)(w:World)(h:Rd w A n (u8s d))(h1:1≤k)(h3:k≤3)(hn:n≤450)(hch:chk k i c id n=0):
 Calls Tryz.prog 67 #[.agg #[.int .u8 k,.int .u64 id,.int .i64 i,.int .i64 c,.slice A n cp]] w fun e w'=>∃g,e=.returned (.tuple #[.slice (some ⟨g,0,none⟩) 480 480,.int .i64 0])∧w.heap.size≤g∧Blk w' g 5 (u8s (Wd.frame (UInt8.ofNat k) (UInt8.ofNat i) (UInt8.ofNat c) id d))∧Below w.heap.size w w':=by
 have HCK:=qh (fun W=>zlq A n cp k id i c W h1 h3 hn);rw[hch]at HCK
 have hic:i<256∧c<256:=by
  unfold chk at hch
  split at hch
  · omega
  · split at hch
    · omega
    · omega
 have HR:=qh h;have hn0:(0:Int)≤(n:Int):=om;have hn2:(n:Int)≤450:=om;have hi0:(0:Int)≤(i:Int):=om;have hi2:(i:Int)<256:=om;have hc0:(0:Int)≤(c:Int):=om;have hc2:(c:Int)<256:=om;have hvk:Value.int .u8 ((UInt8.ofNat k).toNat:Int)=.int .u8 (k:Int):=by rw[UInt8.toNat_ofNat'];congr 1;omega
 have hvi:Value.int .u8 ((UInt8.ofNat i).toNat:Int)=.int .u8 (i:Int):=by rw[UInt8.toNat_ofNat'];congr 1;omega
 have hvc:Value.int .u8 ((UInt8.ofNat c).toNat:Int)=.int .u8 (c:Int):=by rw[UInt8.toNat_ofNat'];congr 1;omega
 have HVK:=qh hvk;have HVI:=qh hvi;have HVC:=qh hvc;clear h hch hvk hvi hvc hic
 go_enter Tryz.func67, Tryz.ntmps67
 go_wp2_with (first
  | (go_at_call 100;(with_reducible refine(HCK.out _).mono ?_);rintro e w1 ⟨rfl,hB1⟩;have HBP1:=qh ((Blk.new' (w:=w) (cs:=[.int .u8 k,.int .u64 id,.int .i64 i,.int .i64 c,.slice A n cp]) (t:=92) rfl rfl).below hB1 sy);have HE1:=qh (((Below.refl _ w).alloc lr _).trans (hB1.mono sy));clear hB1)
  | (refine zaj rfl (.const (.int .i64 480)) (.const (.int .i64 480)) 22 rfl 5 (.int .u8 0) 1 Tryz.underlying22 iU8 rfl .i64 .i64 480 480 rr rr 480 480 rfl rfl om om om ?_;intro w2 hb2 hg2 hs2;have HZ2:Hid (Blk w2 w1.heap.size 5 (u8s (rep 480 0))):=hb2;have hl1:=HBP1.out.lt;have HBP2:=qh (HBP1.out.below (zad hg2) hl1);have HE2:=qh (HE1.out.trans ((zad hg2).mono HE1.out.size));have r0:=HBP2.out.cell 0;have r1:=HBP2.out.cell 1;have r2:=HBP2.out.cell 2;have r3:=HBP2.out.cell 3;have r4:=HBP2.out.cell 4;simp only[List.getElem?_cons_zero,List.getElem?_cons_succ]at r0 r1 r2 r3 r4;have z16:w2.cell? ⟨w1.heap.size,16,none⟩=some (.int .u8 0):=(hb2.cell 16).trans (zc7 om);have z17:w2.cell? ⟨w1.heap.size,17,none⟩=some (.int .u8 0):=(hb2.cell 17).trans (zc7 om);have z18:w2.cell? ⟨w1.heap.size,18,none⟩=some (.int .u8 0):=(hb2.cell 18).trans (zc7 om);have f16:=hb2.frozen 16;have f17:=hb2.frozen 17;have f18:=hb2.frozen 18;have HBP4:=qh (((HBP2.out.far (p:=⟨w1.heap.size,16,none⟩) (by show _≠w1.heap.size;omega) (.int .u8 k)).far (p:=⟨w1.heap.size,17,none⟩) (by show _≠w1.heap.size;omega) (.int .u8 i)).far (p:=⟨w1.heap.size,18,none⟩) (by show _≠w1.heap.size;omega) (.int .u8 c));have HE4:=qh (((HE2.out.setCell (p:=⟨w1.heap.size,16,none⟩) (by show _≤w1.heap.size;omega) (.int .u8 k)).setCell (p:=⟨w1.heap.size,17,none⟩) (by show _≤w1.heap.size;omega) (.int .u8 i)).setCell (p:=⟨w1.heap.size,18,none⟩) (by show _≤w1.heap.size;omega) (.int .u8 c));have hz5:=((HZ2.out.set_ 16 (.int .u8 ((UInt8.ofNat k).toNat:Int))).set_ 17 (.int .u8 ((UInt8.ofNat i).toNat:Int))).set_ 18 (.int .u8 ((UInt8.ofNat c).toNat:Int));rw[za6,za6,za6,frS_0 _ _ _ id,HVK.out,HVI.out,HVC.out]at hz5;have HZ5:=qh hz5;clear hb2 hg2 hs2 hz5))
 have hl1':=hl1;clear r0 r1 r2 r3 r4 z16 z17 z18 f16 f17 f18;generalize w1.heap.size=g at *
 go_loopg [6] 8 (fun kk q wr=>∃j:Nat,j≤8∧kk=8-j∧q=.int .i64 j∧Blk wr g 5 (u8s (frS (UInt8.ofNat k) (UInt8.ofNat i) (UInt8.ofNat c) id j))∧Blk wr w.heap.size 92 [.int .u8 k,.int .u64 id,.int .i64 i,.int .i64 c,.slice A n cp]∧Below w.heap.size w wr)
 case atStart=>exact⟨0,by omega,rfl,rfl,HZ5.out,HBP4.out,HE4.out⟩
 case round =>
  clear HZ5 HBP4 HE4 HZ2 HBP2 HE2 HBP1 HE1;obtain⟨j,hj,hgk,rfl,hz,hp,hB⟩:=hrel;have HGK:=qh hgk;clear hgk
  by_cases hlt:j<8
  · have hlt2:(j:Int)<8:=om
    have r1:=hp.cell 1;simp only[List.getElem?_cons_zero,List.getElem?_cons_succ]at r1;have hz20:=(hz.cell (20+j)).trans (zxn _ _ _ id j hlt);have hf20:=hz.frozen (20+j);have HZS:=qh (zxl (UInt8.ofNat k) (UInt8.ofNat i) (UInt8.ofNat c) id j hlt);have HHZ:=qh hz;have HP:=qh hp;have HBE:=qh hB;clear hz hp hB
    go_wp2_with fail
    rw[zx7 id j hlt];have hz2:=HHZ.out.set_ (20+j) (.int .u8 ((UInt8.ofNat (id/256^(7-j))).toNat:Int));rw[za6,HZS.out]at hz2;have HZ:=qh hz2;have HP2:=qh (HP.out.far (p:=⟨g,20+j,none⟩) (by show _≠g;omega) (.int .u8 ((UInt8.ofNat (id/256^(7-j))).toNat:Int)));have HBE2:=qh (HBE.out.setCell (p:=⟨g,20+j,none⟩) (by show _≤g;omega) (.int .u8 ((UInt8.ofNat (id/256^(7-j))).toNat:Int)));go_roundg (8-(j+1))
    case measure=>have:=HGK.out;omega
    case rel=>exact⟨j+1,by omega,rfl,by go_num,HZ.out,HP2.out,HBE2.out⟩
  · obtain rfl:j=8:=om
    have hlt2:¬((8:Nat):Int)<8:=om;obtain⟨nh,hnh⟩:=ex9 (n/256);obtain⟨nl,hnl⟩:=ex9 (n%256);have hhi:(n:Int)/256=(nh:Int):=om;have hli:(n:Int)%256=(nl:Int):=om;have hh0:(0:Int)≤(nh:Int):=om;have hh1:(nh:Int)<256:=om;have hl0:(0:Int)≤(nl:Int):=om;have hl1:(nl:Int)<256:=om;obtain⟨F,hF⟩:=ex9 (frS (UInt8.ofNat k) (UInt8.ofNat i) (UInt8.ofNat c) id 8)
    have HFR:Hid (splice ((F.set 28 (UInt8.ofNat nh)).set 29 (UInt8.ofNat nl)) 30 d=Wd.frame (UInt8.ofNat k) (UInt8.ofNat i) (UInt8.ofNat c) id d):=by
     show _=_
     rw[hF,hnh,hnl,←HR.out.len];exact zr7 _ _ _ _ d (by rw[HR.out.len];exact hn)
    have hvh:Value.int .u8 ((UInt8.ofNat nh).toNat:Int)=.int .u8 (nh:Int):=by rw[UInt8.toNat_ofNat'];congr 1;omega
    have hvl:Value.int .u8 ((UInt8.ofNat nl).toNat:Int)=.int .u8 (nl:Int):=by rw[UInt8.toNat_ofNat'];congr 1;omega
    have r4:=hp.cell 4;simp only[List.getElem?_cons_zero,List.getElem?_cons_succ]at r4;have z28:wr.cell? ⟨g,28,none⟩=some (.int .u8 0):=(hz.cell 28).trans (frS_z _ _ _ _ 28 (.inl rfl));have z29:wr.cell? ⟨g,29,none⟩=some (.int .u8 0):=(hz.cell 29).trans (frS_z _ _ _ _ 29 (.inr rfl));have f28:=hz.frozen 28;have f29:=hz.frozen 29;have HLZ:Hid (((F.set 28 (UInt8.ofNat nh)).set 29 (UInt8.ofNat nl)).length=480):=by show _=_;rw[List.length_set,List.length_set,hF,zxm]
    rw[←hF]at hz;have hz2:=(hz.set_ 28 (.int .u8 ((UInt8.ofNat nh).toNat:Int))).set_ 29 (.int .u8 ((UInt8.ofNat nl).toNat:Int));rw[za6,za6,hvh,hvl]at hz2;have HZ:=qh hz2;have hp2:=(hp.far (p:=⟨g,28,none⟩) (by show _≠g;omega) (.int .u8 (nh:Int))).far (p:=⟨g,29,none⟩) (by show _≠g;omega) (.int .u8 (nl:Int));have HP:=qh hp2;have HBE:=qh ((hB.setCell (p:=⟨g,28,none⟩) (by show _≤g;omega) (.int .u8 (nh:Int))).setCell (p:=⟨g,29,none⟩) (by show _≤g;omega) (.int .u8 (nl:Int)));have HTD:Hid ((u8s d).take 450=u8s d):=tk (by rw[zaa,HR.out.len];omega);clear hnh hnl hvh hvl hz hp hB hz2 hp2 HGK hF
    go_wp2_with fail
    obtain⟨w6,hw6⟩:=ex9 ((wr.setCell ⟨g,28,none⟩ (.int .u8 (nh:Int))).setCell ⟨g,29,none⟩ (.int .u8 (nl:Int)));rw[←hw6]at HZ HP HBE ⊢;clear hw6 r4 z28 z29 f28 f29;have p64:=HP.out.cell 4;simp only[List.getElem?_cons_zero,List.getElem?_cons_succ]at p64;have HRD6:Hid (Rd w6.drew A n (u8s d)):=HR.out.below HBE.out.drew;clear hhi hli
    go_region_held3 (fun W'=>W'.cell? ⟨w.heap.size,4,none⟩=some (.slice A n cp)) (first|assumption|exact p64|exact p7) ((refine zcu rfl (.tmp 57) (.tmp 59) 22 rfl 5 Tryz.underlying22 zbn g 30 450 450 rr A n cp rr 5 _ (by exact HZ.out.drew) (u8s d) (by exact HRD6.out) (zac _) (by rw[zaa,HLZ.out];exact lr) ?_;intro w7 hb7 ho7;have p7:=((ho7.blk HP.out.drew om).cell 4).trans (show _=some (.slice A n cp) from rfl)))
    rw[HTD.out,zcl,HFR.out]at hb7;have HE7:=qh (ho7.below HBE.out.drew om HBE.out.size);have HB7:=qh hb7;clear hb7 ho7 p64
    go_wp2_with fail
    go_ret2;exact⟨g,rfl,by omega,HB7.out,HE7.out⟩
section
theorem znn(v:Value):Instr.loadAt 92 v=ldAt 92 v:=rfl
attribute [local go_sem ↓] zcg zgy znn
def coverC:Cm:=⟨3,0,0,0,List.replicate 16 0⟩
theorem zdv:coverC.ok:=⟨by decide,by decide,rfl⟩
theorem zf6:coverC.cells.toArray=#[.int .u8 3,.int .u8 0,.int .u32 0,.int .u64 0,.int .u8 0,.int .u8 0,.int .u8 0,.int .u8 0,.int .u8 0,.int .u8 0,.int .u8 0,.int .u8 0,.int .u8 0,.int .u8 0,.int .u8 0,.int .u8 0,.int .u8 0,.int .u8 0,.int .u8 0,.int .u8 0]:=rfl
def emptyF:List UInt8:=Wd.frame 2 0 1 0 []
theorem zo5(k i c:UInt8)(id:Nat)(d:List UInt8)(h:d.length≤450):(Wd.frame k i c id d).length=480:=by
 simp[Wd.frame,beBytes_len,Ch.zeros];omega
theorem zi4:emptyF.length=480:=zo5 2 0 1 0 [] sy
theorem least0(E:Nat):leastOf [0,0,(E:Int)]=(E:Int):=by
 have h:leastOf [0,0,(E:Int)]=least1 (least1 (least1 0 0) 0) (E:Int):=rfl;have h0:least1 0 0=((0:Nat):Int):=rfl;rw[h,h0];have h1:least1 ((0:Nat):Int) 0=((0:Nat):Int):=rfl;rw[h1,zb5]
 by_cases he:E=0
 · subst he;rfl
 · rw[if_pos ⟨he,.inl rfl⟩]
theorem least0r(E:Nat):leastOf [0,(E:Int)]=(E:Int):=by
 have h:leastOf [0,(E:Int)]=least1 (least1 0 0) (E:Int):=rfl;have h0:least1 0 0=((0:Nat):Int):=rfl;rw[h,h0,zb5]
 by_cases he:E=0
 · subst he;rfl
 · rw[if_pos ⟨he,.inl rfl⟩]
theorem zvh(w:World)(ty:TypeId)(a b:Int):Rd (w.alloc (.cells #[.int .i64 a,.int .i64 b] ty)) (some ⟨w.heap.size,0,none⟩) 2 (i64s [a,b]):=⟨rfl,fun _=>⟨w.heap.size,0,rfl,by simp,fun j u hu=>by rw[Nat.zero_add];exact((Blk.new w ty (i64s [a,b])).cell j).trans hu⟩⟩
theorem zqr(w:World):Rd w none 0 (u8s []):=⟨rfl,fun h=>absurd h om⟩
theorem zp0(A H:Option Addr)(na ca n c:Nat)(F R:List UInt8)(E:Nat)(w:World)
 (hbd:∀W g,Below w.heap.size w W→Rd W (some ⟨g,0,none⟩) 480 (u8s F)→Calls Tryz.prog 29 #[.slice A na ca,.agg #[.int .u8 3,.int .u8 0,.int .u32 0,.int .u64 0,.int .u8 0,.int .u8 0,.int .u8 0,.int .u8 0,.int .u8 0,.int .u8 0,.int .u8 0,.int .u8 0,.int .u8 0,.int .u8 0,.int .u8 0,.int .u8 0,.int .u8 0,.int .u8 0,.int .u8 0,.int .u8 0],.slice (some ⟨g,0,none⟩) 480 480,.slice H n c] W fun e w'=>e=.returned (.tuple #[.agg (u8s R).toArray,.int .i64 (E:Int)])∧Below W.heap.size W w')
 (hfr:∀W,Calls Tryz.prog 68 #[.agg #[.int .u8 2,.int .u64 0,.int .i64 0,.int .i64 1,.slice none 0 0]] W fun e w'=>∃g,e=.returned (.tuple #[.slice (some ⟨g,0,none⟩) 480 480,.int .i64 0])∧Rd w' (some ⟨g,0,none⟩) 480 (u8s F)∧Below W.heap.size W w') (hrl:R.length=768) (hre:E≠0→R=z768):
 Calls Tryz.prog 66 #[.slice A na ca,.agg #[.int .u8 2,.int .u64 0,.int .i64 0,.int .i64 1,.slice none 0 0],.slice H n c] w fun e w'=>e=.returned (.tuple #[.agg (u8s R).toArray,.int .i64 (E:Int)])∧Below w.heap.size w w':=by
 have HBD:=qh hbd;have HFR:=qh hfr;have HRL:=qh hrl;have HRE:=qh hre
 have HLE:Hid (∀W A3,Rd W A3 3 (i64s [0,0,(E:Int)])→Calls Tryz.prog 41 #[.slice A3 3 3] W fun e w'=>e=.returned (.int .i64 (E:Int))∧W=w'):=fun W A3 h3=>by
  have h5:=zff A3 3 3 _ W h3 om
  rwa [least0]at h5
 obtain⟨Z,HZ,HZl,HZ1⟩:∃Z:List Value,Hid (Tryz.zeroCells35 = Z.toArray)∧Hid (Z.length=768)∧Hid (∀v∈Z,v.oneCell'=true):=⟨u8s z768,zc76z,by show(u8s _).length=_;rw[zaa];exact zby,zac _⟩;have HZZ:Hid (Z=u8s z768):=by show _=_;have h5:=HZ.out.symm.trans zc76z;simpa using congrArg Array.toList h5
 have HI:Hid ((Tryz.prog.info? 35).map (·.size)=some Z.length):=by show _=_;rw[HZl.out];exact hd76
 have HIR:Hid ((Tryz.prog.info? 35).map (·.size)=some (u8s R).length):=by show _=_;rw[zaa,HRL.out];exact hd76
 have HFR2:Hid ((u8s R).length=Z.length):=by show _=_;rw[zaa,HRL.out,HZl.out]
 clear hrl hre hbd hfr;obtain⟨W0,hW0⟩:=ex9 ((((w.alloc (.cells #[.int .u8 2,.int .u64 0,.int .i64 0,.int .i64 1,.slice none 0 0] 92)).alloc (.cells Tryz.zeroCells35 35)).alloc (.cells #[.int .u8 0,.int .u8 0,.int .u32 0,.int .u64 0,.int .u8 0,.int .u8 0,.int .u8 0,.int .u8 0,.int .u8 0,.int .u8 0,.int .u8 0,.int .u8 0,.int .u8 0,.int .u8 0,.int .u8 0,.int .u8 0,.int .u8 0,.int .u8 0,.int .u8 0,.int .u8 0] 47)));have e0:Below w.heap.size w W0:=by rw[hW0];exact(((Below.refl _ w).alloc lr _).alloc sy _).alloc (by simp;omega) _
 have b0:Blk W0 (w.heap.size+1) 35 Z:=by rw[hW0];exact(Blk.new' sy HZ.out).alloc _
 have c0:Blk W0 (w.heap.size+1+1) 47 [.int .u8 0,.int .u8 0,.int .u32 0,.int .u64 0,.int .u8 0,.int .u8 0,.int .u8 0,.int .u8 0,.int .u8 0,.int .u8 0,.int .u8 0,.int .u8 0,.int .u8 0,.int .u8 0,.int .u8 0,.int .u8 0,.int .u8 0,.int .u8 0,.int .u8 0,.int .u8 0]:=by rw[hW0];exact Blk.new' sy rfl
 have p0:Blk W0 w.heap.size 92 [.int .u8 2,.int .u64 0,.int .i64 0,.int .i64 1,.slice none 0 0]:=by rw[hW0];exact((Blk.new w _ _).alloc _).alloc _
 obtain⟨w3,hst,ho3,hb3⟩:=st20 0 c0 (X:=[.int .u8 2,.int .u8 0,.int .u32 0,.int .u64 0,.int .u8 0,.int .u8 0,.int .u8 0,.int .u8 0,.int .u8 0,.int .u8 0,.int .u8 0,.int .u8 0,.int .u8 0,.int .u8 0,.int .u8 0,.int .u8 0,.int .u8 0,.int .u8 0,.int .u8 0,.int .u8 0]) lr rfl (List.all_eq_true.1 (rfl:List.all ([.int .u8 2,.int .u8 0,.int .u32 0,.int .u64 0,.int .u8 0,.int .u8 0,.int .u8 0,.int .u8 0,.int .u8 0,.int .u8 0,.int .u8 0,.int .u8 0,.int .u8 0,.int .u8 0,.int .u8 0,.int .u8 0,.int .u8 0,.int .u8 0,.int .u8 0,.int .u8 0]:List Value) Value.oneCell'=true));rw[hW0]at hst;have c3:Blk w3 (w.heap.size+1+1) 47 [.int .u8 2,.int .u8 0,.int .u32 0,.int .u64 0,.int .u8 0,.int .u8 0,.int .u8 0,.int .u8 0,.int .u8 0,.int .u8 0,.int .u8 0,.int .u8 0,.int .u8 0,.int .u8 0,.int .u8 0,.int .u8 0,.int .u8 0,.int .u8 0,.int .u8 0,.int .u8 0]:=hb3;have p3:=ho3.blk p0 om;have b3:=ho3.blk b0 om;have e3:=ho3.below e0 om e0.size;have d0:w3.cell? ⟨w.heap.size,0,none⟩=some (.int .u8 2):=p3.cell 0;have d1:w3.cell? ⟨w.heap.size+1+1,0,none⟩=some (.int .u8 2):=c3.cell 0;have d2:=c3.frozen 0;have c4:Blk (w3.setCell ⟨w.heap.size+1+1,0,none⟩ (.int .u8 3)) (w.heap.size+1+1) 47 [.int .u8 3,.int .u8 0,.int .u32 0,.int .u64 0,.int .u8 0,.int .u8 0,.int .u8 0,.int .u8 0,.int .u8 0,.int .u8 0,.int .u8 0,.int .u8 0,.int .u8 0,.int .u8 0,.int .u8 0,.int .u8 0,.int .u8 0,.int .u8 0,.int .u8 0,.int .u8 0]:=c3.set_ 0 (.int .u8 3);have p4:Blk (w3.setCell ⟨w.heap.size+1+1,0,none⟩ (.int .u8 3)) w.heap.size 92 [.int .u8 2,.int .u64 0,.int .i64 0,.int .i64 1,.slice none 0 0]:=p3.far (p:=⟨w.heap.size+1+1,0,none⟩) (by show _≠w.heap.size+1+1;omega) _;have HB0:Hid (Blk (w3.setCell ⟨w.heap.size+1+1,0,none⟩ (.int .u8 3)) (w.heap.size+1) 35 Z):=b3.far (p:=⟨w.heap.size+1+1,0,none⟩) (by show _≠w.heap.size+1+1;omega) _;have HE0:Hid (Below w.heap.size w (w3.setCell ⟨w.heap.size+1+1,0,none⟩ (.int .u8 3))):=e3.setCell (p:=⟨w.heap.size+1+1,0,none⟩) (by show _≤w.heap.size+1+1;omega) _;have HC0:Hid (Blk (w3.setCell ⟨w.heap.size+1+1,0,none⟩ (.int .u8 3)) (w.heap.size+1+1) 47 [.int .u8 3,.int .u8 0,.int .u32 0,.int .u64 0,.int .u8 0,.int .u8 0,.int .u8 0,.int .u8 0,.int .u8 0,.int .u8 0,.int .u8 0,.int .u8 0,.int .u8 0,.int .u8 0,.int .u8 0,.int .u8 0,.int .u8 0,.int .u8 0,.int .u8 0,.int .u8 0]):=c4;have d4:(w3.setCell ⟨w.heap.size+1+1,0,none⟩ (.int .u8 3)).cell? ⟨w.heap.size,0,none⟩=some (.int .u8 2):=p4.cell 0;have hlp:(ldAt 92 (.pointer (some ⟨w.heap.size,0,none⟩))).run Tryz.prog (w3.setCell ⟨w.heap.size+1+1,0,none⟩ (.int .u8 3))=.ok (.agg #[.int .u8 2,.int .u64 0,.int .i64 0,.int .i64 1,.slice none 0 0]) (w3.setCell ⟨w.heap.size+1+1,0,none⟩ (.int .u8 3)):=zas p4 92 0 [.int .u8 2,.int .u64 0,.int .i64 0,.int .i64 1,.slice none 0 0] rfl _ Tryz.underlying92 rfl kr;have HLC:Hid (∀W,Blk W (w.heap.size+1+1) 47 [.int .u8 3,.int .u8 0,.int .u32 0,.int .u64 0,.int .u8 0,.int .u8 0,.int .u8 0,.int .u8 0,.int .u8 0,.int .u8 0,.int .u8 0,.int .u8 0,.int .u8 0,.int .u8 0,.int .u8 0,.int .u8 0,.int .u8 0,.int .u8 0,.int .u8 0,.int .u8 0]→(ldAt 47 (.pointer (some ⟨w.heap.size+1+1,0,none⟩))).run Tryz.prog W=.ok (.agg #[.int .u8 3,.int .u8 0,.int .u32 0,.int .u64 0,.int .u8 0,.int .u8 0,.int .u8 0,.int .u8 0,.int .u8 0,.int .u8 0,.int .u8 0,.int .u8 0,.int .u8 0,.int .u8 0,.int .u8 0,.int .u8 0,.int .u8 0,.int .u8 0,.int .u8 0,.int .u8 0]) W):=fun W hb=>cm_ld hb rfl
 clear c0 p0 b0 e0 hW0 W0 ho3 hb3 c3 p3 b3 e3 c4 p4
 by_cases he:E=0
 · subst he
   have HBD2:Hid (∀W g,Below w.heap.size w W→Rd W (some ⟨g,0,none⟩) 480 (u8s F)→Calls Tryz.prog 29 #[.slice A na ca,.agg #[.int .u8 3,.int .u8 0,.int .u32 0,.int .u64 0,.int .u8 0,.int .u8 0,.int .u8 0,.int .u8 0,.int .u8 0,.int .u8 0,.int .u8 0,.int .u8 0,.int .u8 0,.int .u8 0,.int .u8 0,.int .u8 0,.int .u8 0,.int .u8 0,.int .u8 0,.int .u8 0],.slice (some ⟨g,0,none⟩) 480 480,.slice H n c] W fun e w'=>e=.returned (.tuple #[.agg (u8s R).toArray,.int .i64 0])∧Below W.heap.size W w'):=HBD.out;have HLE2:Hid (∀W A3,Rd W A3 3 (i64s [0,0,0])→Calls Tryz.prog 41 #[.slice A3 3 3] W fun e w'=>e=.returned (.int .i64 0)∧W=w'):=HLE.out;clear HBD HLE HRE
   go_enter Tryz.func66, Tryz.ntmps66
   go_wp2_with (first
    | (go_at_call 68;(refine(HFR.out _).mono ?_);rintro e w1 ⟨g1,rfl,hr1,hB1⟩;have HE1:=qtr HE0 hB1;have HB1:=qbl HB0 hB1;have HR1:=qh hr1;have hl1:=HLC.out _ (HC0.out.below hB1 HC0.out.lt);clear hB1 hr1)
    | (go_at_call 29;(refine(HBD2.out _ _ (by exact HE1.out) (by exact HR1.out)).mono ?_);rintro e w2 ⟨rfl,hB2⟩;have HE2:=qtr HE1 hB2;have HB2:=qbl HB1 hB2;clear hB2)
    | (refine zab rfl 35 (.tmp 12) (.tmp 37) rfl w2.heap.size (u8s R) rr rr 35 Z (by exact Blk.new' rfl HZ.out) HIR.out (zac _) HFR2.out ?_;intro w3 hb3 ho3;have hD3:Below w2.heap.size w2 w3:=ho3.below ((Below.refl _ w2).alloc lr _) lr sy;have HE3:=qtr HE2 hD3;have HB3:=qbl HB2 hD3;have HP3:=qh hb3;clear hb3 ho3 hD3)
    | (go_at_call 41;(refine(HLE2.out _ _ (by exact ze6 _ _ _ _ _)).mono ?_);rintro e w4 ⟨rfl,rfl⟩;have HE4:=qh (HE3.out.alloc HE3.out.size (.cells #[.int .i64 0,.int .i64 0,.int .i64 0] 36));have HB4:=qh (HB3.out.alloc (.cells #[.int .i64 0,.int .i64 0,.int .i64 0] 36));have hp4:=(HP3.out.alloc (.cells #[.int .i64 0,.int .i64 0,.int .i64 0] 36)).range)
    | (refine wpList_load_mid rfl 35 (.tmp 12) rfl w2.heap.size 0 rr (u8s R) _ hp4 Tryz.underlying35 rfl HIR.out ?_)
    | (refine zab rfl 35 (.tmp 6) (.tmp 48) rfl (w.heap.size+1) (u8s R) rr rr 35 Z (by exact HB4.out) HIR.out (zac _) HFR2.out ?_;intro w5 hb5 ho5))
   have hB5:=ho5.below HE4.out (Nat.le_succ _) HE4.out.size;exact bodyPost_ret (zah rfl _ _ _ _ rfl hb5 _ Tryz.underlying35 rfl HIR.out) rfl ⟨rfl,hB5⟩
 · have hei:¬(E:Int)=0:=om
   have HRZ:Hid (u8s R=Z):=by show _=_;rw[HRE.out he,HZZ.out]
   clear HRE
   go_enter Tryz.func66, Tryz.ntmps66
   go_wp2_with (first
    | (go_at_call 68;(refine(HFR.out _).mono ?_);rintro e w1 ⟨g1,rfl,hr1,hB1⟩;have HE1:=qtr HE0 hB1;have HB1:=qbl HB0 hB1;have HR1:=qh hr1;have hl1:=HLC.out _ (HC0.out.below hB1 HC0.out.lt);clear hB1 hr1)
    | (go_at_call 29;(refine(HBD.out _ _ (by exact HE1.out) (by exact HR1.out)).mono ?_);rintro e w2 ⟨rfl,hB2⟩;have HE2:=qtr HE1 hB2;have HB2:=qbl HB1 hB2;clear hB2)
    | (refine zab rfl 35 (.tmp 12) (.tmp 37) rfl w2.heap.size (u8s R) rr rr 35 Z (by exact Blk.new' rfl HZ.out) HIR.out (zac _) HFR2.out ?_;intro w3 hb3 ho3;have hD3:Below w2.heap.size w2 w3:=ho3.below ((Below.refl _ w2).alloc lr _) lr sy;have HE3:=qtr HE2 hD3;have HB3:=qbl HB2 hD3;clear hb3 ho3 hD3)
    | (go_at_call 41;(refine(HLE.out _ _ (by exact ze6 _ _ _ _ _)).mono ?_);rintro e w4 ⟨rfl,rfl⟩;have HE4:=qh (HE3.out.alloc HE3.out.size (.cells #[.int .i64 0,.int .i64 0,.int .i64 (E:Int)] 36));have HB4:=qh (HB3.out.alloc (.cells #[.int .i64 0,.int .i64 0,.int .i64 (E:Int)] 36)))
    | (refine zap rfl 35 [] rfl [] rr _ (zem _) ?_)
    | (refine zbe rfl 35 (.tmp 6) (.tmp 46) rfl (w.heap.size+1) 0 Z rr (by exact congrArg Value.agg HZ.out) 35 Z (by exact HB4.out) HI.out HZ1.out om ?_;intro w5 hb5 ho5))
   have hB5:=ho5.below HE4.out (Nat.le_succ _) HE4.out.size;rw[zan _ _ rfl]at hb5;exact bodyPost_ret (zah rfl _ _ _ _ rfl hb5 _ Tryz.underlying35 rfl HI.out) rfl ⟨by rw[HRZ.out];rfl,hB5⟩
theorem zn8(A H:Option Addr)(na ca n c:Nat)(xs:List UInt8)(hs:List Ho)(w:World)(hx:Rd w A na (u8s xs))(hca:na≤ca)(hh:RdS 68 w H n (hs.flatMap Ho.cells))(hok:∀s∈hs,s.ok)(hl:hs.length=n)(hn:n≤1400000000000):
 Calls Tryz.prog 66 #[.slice A na ca,.agg #[.int .u8 2,.int .u64 0,.int .i64 0,.int .i64 1,.slice none 0 0],.slice H n c] w fun e w'=>e=.returned (.tuple #[.agg (u8s (pbR coverC xs emptyF hs)).toArray,.int .i64 (pbE coverC xs emptyF hs:Int)])∧Below w.heap.size w w' :=
 zp0 A H na ca n c emptyF _ _ w (fun W g hW hb=>by
  have h5:=zow A (some ⟨g,0,none⟩) H na ca 480 480 n c xs emptyF coverC zdv hs W (hx.below hW) hca hb lr (hh.bel hW lr) hok hl hn
  rwa [zf6]at h5) (fun W=>by
  refine(zmg none 0 0 [] W (zqr W) om rfl).mono ?_;rintro e w' ⟨g,rfl,_,hb,hB⟩;have hb2:Blk w' g 5 (u8s emptyF):=hb;have h5:=hb2.rdAll;rw[zi4]at h5
  exact⟨g,rfl,h5,hB⟩) (zjo zdv hok) (fun h=>by rw[pbR,if_neg h])
end
end Go.Proofs.YtpgpaenloaphaaaGreat
