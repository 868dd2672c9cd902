/- Part of the proof. -/
import Derived.Test.YtpgpaenloaphaaaGreatSmx42
set_option maxRecDepth 100000
set_option maxHeartbeats 0
namespace Go.Proofs.YtpgpaenloaphaaaGreat
open Go.RowKit
theorem zfc(k u:List UInt8):(mB k u).length=32:=by
 unfold mB
 split
 · rfl
 · exact zhf _
theorem Sp.at_blind{s:Sp}(h:s.ok):(s.bytes.drop 96).take 32=s.blind:=by
 have e:s.bytes=(s.mac++(s.stream++s.pay))++(s.blind++(s.alpha++s.secret)):=by simp[Sp.bytes]
 rw[e,List.drop_left' (by simp[h.1,h.2.1,h.2.2.1]),List.take_left' h.2.2.2.1]
theorem zty(s:Sp)(hs:s.ok)(w:World):
 Calls Tryz.prog 45 #[.agg s.cells.toArray] w fun e w'=>e=.returned (.tuple #[.agg (u8s (mB s.blind s.alpha)).toArray,.int .i64 (mE s.blind s.alpha:Int)])∧Below w.heap.size w w':=by
 obtain⟨C,hC⟩:=ex9 (s.cells);have HCL:Hid (C.length=192):=(by show _=_;rw[hC];exact Sp.cells_len hs)
 have HM:Hid (∀W,Blk W w.heap.size 43 C→Calls Tryz.prog 76 #[.slice (some ⟨w.heap.size,96,none⟩) 32 32,.slice (some ⟨w.heap.size,128,none⟩) 32 32] W fun e w'=>e=.returned (.tuple #[.agg (u8s (mB s.blind s.alpha)).toArray,.int .i64 (mE s.blind s.alpha:Int)])∧Below W.heap.size W w'):=fun W h=>by
  rw[hC]at h;exact zjl _ _ 32 32 s.blind s.alpha W (Sp.rd h hs 96 s.blind om (Sp.at_blind hs)) (Sp.rd h hs 128 s.alpha om (Sp.at_alpha hs))
 have HML:=qh (zfc s.blind s.alpha);rw[←hC];generalize mB s.blind s.alpha=M at *;generalize (mE s.blind s.alpha:Int)=E at *;clear hC hs
 have HB0:Hid (Blk ((w.alloc (.cells C.toArray 43)).alloc (.cells o32.toArray 23)) w.heap.size 43 C∧Blk ((w.alloc (.cells C.toArray 43)).alloc (.cells o32.toArray 23)) (w.heap.size+1) 23 o32∧Below w.heap.size w ((w.alloc (.cells C.toArray 43)).alloc (.cells o32.toArray 23))) :=
  ⟨(Blk.new w _ _).alloc _,Blk.new' sy rfl,((Below.refl _ w).alloc lr _).alloc sy _⟩
 go_enter Tryz.func45, Tryz.ntmps45
 go_wp2;refine kgo kr 8 (fun w'=>True) trivial (fun _ _ _ _ _ h=>h) ?_;refine kp 0 (.pointer (some ⟨w.heap.size,0,none⟩)) rfl kr (fun _=>kr) ?_;refine kp 1 (.pointer (some ⟨w.heap.size,96,none⟩)) rfl kr (fun _=>kr) ?_;refine kp 2 (.slice (some ⟨w.heap.size,96,none⟩) 32 32) rfl kr (fun _=>kr) ?_;refine kp 3 (.pointer (some ⟨w.heap.size,128,none⟩)) rfl kr (fun _=>kr) ?_;refine kp 4 (.slice (some ⟨w.heap.size,128,none⟩) 32 32) rfl kr (fun _=>kr) ?_;intro q8 q9;clear q8 q9;refine AnyK.enter 5 (d:=some 9) (f:=76) (args:=#[.slice (some ⟨w.heap.size,96,none⟩) 32 32,.slice (some ⟨w.heap.size,128,none⟩) 32 32]) rr kr kr ?_;refine(HM.out _ (by exact HB0.out.1.drew)).mono ?_;rintro e w2 ⟨rfl,hB⟩;refine⟨_,rfl,fun _=>trivial,?_⟩;have hB':Below ((w.alloc (.cells C.toArray 43)).alloc (.cells o32.toArray 23)).drew.heap.size ((w.alloc (.cells C.toArray 43)).alloc (.cells o32.toArray 23)).drew w2:=hB;have hz2:=HB0.out.2.1.drew.below hB' HB0.out.2.1.drew.lt;have hE2:=HB0.out.2.2.drew.trans (hB'.mono HB0.out.2.2.drew.size);refine AnyK.pure 6 (v:=.agg (u8s M).toArray) rfl kr (fun _ _ _ h=>h) rfl (fun _=>kr) (fun _=>trivial) ?_;refine AnyK.pure 7 (v:=.int .i64 E) rfl kr (fun _ _ _ h=>h) rfl (fun _=>kr) (fun _=>trivial) ?_;refine AnyK.storeAll 8 (w.heap.size+1) (u8s M) 23 o32 rr rfl rfl rr kr kr kr hz2 (by rw[zaa,HML.out];exact hd32) (zac _) (by rw[zaa,HML.out];rfl) (fun _ _ _ _=>trivial) ?_;intro w3 hb3 ho3;have HE3:=qh (ho3.below hE2 om hE2.size);refine AnyK.val 9 (v:=.int .i64 E) rr kr rfl kr (fun _=>trivial) ?_;refine AnyK.done kr ?_;have HB3:=qh hb3;clear hb3 ho3 hz2 hE2 hB hB';go_wp2;exact bodyPost_ret (zak (p:=2) (u:=3) (ty:=23) rfl _ (w.heap.size+1) 23 (u8s M) kr HB3.out _ Tryz.underlying23 rfl (by rw[zaa,HML.out];exact hd32)) rfl ⟨by kernel_rfl,HE3.out⟩
noncomputable def chV:List UInt8→List (List UInt8)→List UInt8 × Nat
 | u,[]=>(u,0)
 | u,k :: ks=>if mE k u=0 then chV (mB k u) ks else (List.replicate 32 0,mE k u)
theorem zfs:∀(ks:List (List UInt8)) (u:List UInt8),u.length=32→(chV u ks).1.length=32
 | [],u,h=>h
 | k :: ks,u,h=>by
  rw[chV]
  split
  · exact zfs ks _ (zfc _ _)
  · rfl
noncomputable def nrm(u:List UInt8):List UInt8:=leB (readN u%pr)
theorem zd7(u:List UInt8):(nrm u).length=32:=zhf _
def lMac:List UInt8:=[109,97,99]
def lStream:List UInt8:=[115,116,114,101,97,109]
def lPay:List UInt8:=[112,97,121]
def lBlind:List UInt8:=[98,108,105,110,100]
def stp(al sec:List UInt8):Sp:=⟨Wd.derive sec lMac,Wd.derive sec lStream,Wd.derive sec lPay,Wd.derive sec lBlind,al,sec⟩
theorem zmq{al sec:List UInt8}(h1:al.length=32)(h2:sec.length=32):(stp al sec).ok:=⟨Wd.derive_len _ _,Wd.derive_len _ _,Wd.derive_len _ _,Wd.derive_len _ _,h1,h2⟩
noncomputable def sch:List Sp→List (List UInt8)→List UInt8→List (List UInt8)→List Sp × Nat
 | acc,_,_,[]=>(acc,0)
 | acc,sc,al,p :: ps=>if (chV (nrm p) sc).2=0 then sch (acc++[stp al (chV (nrm p) sc).1]) (sc++[Wd.derive (chV (nrm p) sc).1 lBlind]) (mB (Wd.derive (chV (nrm p) sc).1 lBlind) al) ps else ([],(chV (nrm p) sc).2)
theorem mE_uB{j:Nat}(hj:¬ordB ∣ j){k:List UInt8}(hk:k.length=32):mE k (leB (uB j))=0:=by
 unfold mE
 rw[zrj hj hk,if_neg (uB_ne (zje hj (clm hk)))]
theorem mB_uB{j:Nat}(hj:¬ordB ∣ j){k:List UInt8}(hk:k.length=32):mB k (leB (uB j))=leB (uB (j*clN k)):=by
 unfold mB
 rw[zrj hj hk,if_neg (uB_ne (zje hj (clm hk)))]
theorem zw5:¬ordB ∣ 1:=by
 intro h;have:=Nat.le_of_dvd om h;have h5:Nat.ble 3 ordB=true:=by kernel_rfl
 have:=Nat.le_of_ble_eq_true h5;omega
def Good(al:List UInt8):Prop:=∃j,¬ordB ∣ j∧al=leB (uB j)
theorem Good.len{al:List UInt8}(h:Good al):al.length=32:=by obtain⟨j,_,rfl⟩:=h;exact zhf _
theorem Good.mE{al k:List UInt8}(h:Good al)(hk:k.length=32):mE k al=0:=by obtain⟨j,hj,rfl⟩:=h;exact mE_uB hj hk
theorem Good.mB{al k:List UInt8}(h:Good al)(hk:k.length=32):Good (mB k al):=by
 obtain⟨j,hj,rfl⟩:=h;exact⟨j*clN k,zje hj (clm hk),mB_uB hj hk⟩
def nine:List UInt8:=leB (9%pr)
theorem zfd:Good nine:=⟨1,zw5,by rw[nine,uB_one,Nat.mod_eq_of_lt (by show 9<pr;exact Nat.le_of_ble_eq_true kr)]⟩
noncomputable def pubB(k:List UInt8):List UInt8:=mB k nine
noncomputable def pubE(k:List UInt8):Nat:=mE k nine
theorem zu9{k:List UInt8}(hk:k.length=32):pubE k=0:=zfd.mE hk
theorem zm3{k:List UInt8}(hk:k.length=32):Good (pubB k):=zfd.mB hk
theorem zop(A:Option Addr)(c:Nat)(ks:List UInt8)(w:World)(hk:Rd w A 32 (u8s ks)):
 Calls Tryz.prog 87 #[.slice A 32 c] w fun e w'=>e=.returned (.tuple #[.agg (u8s (pubB ks)).toArray,.int .i64 0])∧Below w.heap.size w w':=by
 have HK:=qh hk;have HE:Hid ((mE ks nine:Int)=0):=by show _=_;rw[show mE ks nine=0 from zu9 hk.len];rfl
 have HM:Hid (∀W B d,Rd W A 32 (u8s ks)→Rd W B 32 (u8s nine)→Calls Tryz.prog 76 #[.slice A 32 c,.slice B 32 d] W fun e w'=>e=.returned (.tuple #[.agg (u8s (pubB ks)).toArray,.int .i64 0])∧Below W.heap.size W w'):=fun W B d h1 h2=>by
  have h5:=zjl A B c d ks nine W h1 h2;rw[HE.out]at h5;exact h5
 have HO:Hid (∀W,Calls Tryz.prog 112 #[.int .u64 9] W fun e w'=>e=.returned (.agg (elc 9).toArray)∧Below W.heap.size W w'):=fun W=>of_el 9 om W
 have HY:Hid (∀W,Calls Tryz.prog 115 #[.agg (elc 9).toArray] W fun e w'=>e=.returned (.agg (u8s nine).toArray)∧Below W.heap.size W w'):=fun W=>zj5 9 W om
 have HNL:Hid ((u8s nine).length=32):=by show _=_;rw[zaa,zfd.len]
 have HN1:Hid (∀v∈u8s nine,v.oneCell'=true):=zac _;have HPL:Hid ((u8s (pubB ks)).length=32):=by show _=_;rw[zaa,pubB,zfc]
 have HP1:Hid (∀v∈u8s (pubB ks),v.oneCell'=true):=zac _;have HB0:Hid (Blk (w.alloc (.cells o32.toArray 23)) w.heap.size 23 o32):=Blk.new _ _ _;have HE0:Hid (Below w.heap.size w (w.alloc (.cells o32.toArray 23))):=(Below.refl _ w).alloc lr _;generalize u8s (pubB ks)=PB at *;generalize u8s nine=NI at *;generalize elc 9=E9 at *;clear hk HE
 go_enter Tryz.func87, Tryz.ntmps87
 go_wp2_with (first
  | (go_at_call 112;(with_reducible refine(HO.out _).mono ?_);rintro e w1 ⟨rfl,hB1⟩;have HE1:=qtr HE0 hB1;have HB1:=qbl HB0 hB1;clear hB1)
  | (go_at_call 115;(with_reducible refine(HY.out _).mono ?_);rintro e w2 ⟨rfl,hB2⟩;have HE2:=qtr HE1 hB2;have HB2:=qbl HB1 hB2;clear hB2)
  | (refine zab rfl 23 (.tmp 4) (.tmp 6) rfl w2.heap.size NI rr rr 23 o32 (by exact Blk.new' rfl rfl) (by rw[HNL.out];exact hd24) HN1.out (by rw[HNL.out];rfl) ?_;intro w3 hb3 ho3;have HE3:=qh (ho3.below (HE2.out.alloc HE2.out.size _) HE2.out.size (Nat.le_trans HE2.out.size sy));have HB3:=qal ho3 HB2 (by have:=HB2.out.lt;omega);have HN3:Hid (Rd w3 (some ⟨w2.heap.size,0,none⟩) 32 NI):=by have:=hb3.rd 0 32 (by rw[HNL.out];exact lr);rwa [List.drop_zero,tk (by rw[HNL.out];exact lr)]at this
     clear hb3 ho3)
  | (go_at_call 76;(with_reducible refine(HM.out _ _ _ (by exact HK.out.below HE3.out) (by exact HN3.out)).mono ?_);rintro e w4 ⟨rfl,hB4⟩;have HE4:=qtr HE3 hB4;have HB4:=qbl HB3 hB4;clear hB4)
  | (refine zab rfl 23 (.tmp 2) (.tmp 10) rfl w.heap.size PB rr rr 23 o32 (by exact HB4.out) (by rw[HPL.out];exact hd24) HP1.out (by rw[HPL.out];rfl) ?_;intro w5 hb5 ho5;have HE5:=qh (ho5.below HE4.out lr HE4.out.size)))
 exact bodyPost_ret (zak rfl _ _ _ _ rfl hb5 _ Tryz.underlying23 rfl (by rw[HPL.out];exact hd24)) rfl ⟨rfl,HE5.out⟩
section
theorem zpr(p v:Value):Instr.storeAt 23 p v=stAt 23 p v:=rfl
theorem zt9(v:Value):Instr.loadAt 184 v=ldAt 184 v:=rfl
theorem zep{w:World}{g:Nat}{t:TypeId}{C:List Value}(hb:Blk w g t C)(hl:C.length=32):(ldAt 23 (.pointer (some ⟨g,0,none⟩))).run Tryz.prog w=.ok (.agg C.toArray) w :=
 zal hb _ 0 C (by rw[List.drop_zero,tk lr]) _ Tryz.underlying23 rfl (by rw[hl];exact hd24)
attribute [local go_sem ↓] zb0 zt9
theorem zmz(u:List UInt8):readN u<pr:=Nat.mod_lt _ (Nat.le_of_ble_eq_true kr)
theorem zsp(w:World):(Instr.build 23 #[]).run Tryz.prog w=.ok (.agg o32.toArray) w:=by kernel_rfl
theorem RdB.only_new{w w':World}{o:Obj}{A:Option Addr}{n:Nat}{ls:List (List UInt8)}(h:RdB w A n ls)(ho:Only (w.alloc o) w' w.heap.size):RdB w' A n ls:=by
 have hB:Below w.heap.size w w':=ho.below ((Below.refl _ w).alloc lr o) lr sy;exact h.below hB
theorem zsh(A C:Option Addr)(c m d:Nat)(us:List UInt8)(kss:List (List UInt8))(w:World)(hu:Rd w A 32 (u8s us))(hk:RdB w C m kss)(h32:∀k∈kss,k.length=32)(hm:m≤1000):
 Calls Tryz.prog 88 #[.slice A 32 c,.slice C m d] w fun e w'=>e=.returned (.tuple #[.agg (u8s (chV (nrm us) kss).1).toArray,.int .i64 ((chV (nrm us) kss).2:Int)])∧Below w.heap.size w w':=by
 have hcl:=zfs kss (nrm us) (zd7 us);obtain⟨R,hR⟩:=ex9 (chV (nrm us) kss);rw[←hR]at hcl ⊢;have HRR:Hid (chV (nrm us) kss=R):=hR.symm;have HU:=qh hu;have HK:=qh hk;have H32:=qh h32;have HML:Hid (kss.length=m):=by obtain⟨_,_,h,_⟩:=hk;exact h
 have HRD:Hid (∀W,Rd W A 32 (u8s us)→Calls Tryz.prog 111 #[.slice A 32 c] W fun e w'=>e=.returned (.tuple #[.agg (elc (readN us)).toArray,.int .i64 0])∧Below W.heap.size W w'):=fun W h=>zqq A 32 c us W h rfl
 have HY:Hid (∀W,Calls Tryz.prog 115 #[.agg (elc (readN us)).toArray] W fun e w'=>e=.returned (.agg (u8s (nrm us)).toArray)∧Below W.heap.size W w'):=fun W=>zj5 (readN us) W (Nat.lt_trans (zmz us) (Nat.le_of_ble_eq_true rfl))
 have HNL:Hid ((u8s (nrm us)).length=32):=by show _=_;rw[zaa,zd7]
 have HPL:Hid ((u8s R.1).length=32):=by show _=_;rw[zaa,hcl]
 have HB0:Hid (Blk (w.alloc (.cells o32.toArray 23)) w.heap.size 23 o32):=Blk.new _ _ _;have HE0:Hid (Below w.heap.size w (w.alloc (.cells o32.toArray 23))):=(Below.refl _ w).alloc lr _;have HEL:Hid ((elc (readN us)).length=4):=rfl;have HE1':=qh (za1 (readN us));generalize elc (readN us)=X at *;clear hu hk h32 hR hcl
 go_enter Tryz.func88, Tryz.ntmps88
 go_upto_region 4 with (first
  | (go_at_call 111;(refine(HRD.out _ (by exact HU.out.alloc _)).mono ?_);rintro e w1 ⟨rfl,hB1⟩;have HE1:=qtr HE0 hB1;have HB1:=qbl HB0 hB1;clear hB1)
  | (refine zab rfl 184 (.tmp 6) (.tmp 16) rfl w1.heap.size X rr rr 184 (l4 0 0 0 0) (by exact Blk.new' rfl rfl) (by rw[HEL.out];exact hdEl) HE1'.out (by rw[HEL.out];rfl) ?_;intro w2 hb2 ho2;have HE2:=qh (ho2.below (HE1.out.alloc HE1.out.size _) HE1.out.size (Nat.le_trans HE1.out.size sy));have HB2:=qal ho2 HB1 (by have:=HB1.out.lt;omega);have HX2:=qh hb2;clear hb2 ho2))
 have HK2:=qh (HK.out.below HE2.out);have hml:=HML.out;clear HRD HE1 HB1 HU HE0 HB0 hml;go_wp2
 go_loop [24] (fun q=>∃k:Nat,k≤m∧q=.int .i64 k) (fun q=>m-(intOf q).toNat)
 case atStart=>exact⟨0,Nat.zero_le _,rfl⟩
 case round =>
  obtain⟨k,hkm,rfl⟩:=hrel
  by_cases hlt:k<m
  · have hlt2:(k:Int)<(m:Int):=om
    obtain⟨b,off,A1,n1,c1,l,rfl,hb,hkl,hc,hn1,hr1⟩:=HK2.out.at_ hlt;have hl:=hr1.len;rw[H32.out l (mg9 hkl.out)]at hl;subst hl;clear hr1 hkl;go_wp2
    go_round
    case rel=>exact⟨k+1,by omega,by go_num⟩
    case measure=>simp[intOf];omega
  · obtain rfl:k=m:=om
    have hlt2:¬(k:Int)<(k:Int):=om;have hldx:(ldAt 184 (.pointer (some ⟨w1.heap.size,0,none⟩))).run Tryz.prog w2=.ok (.agg X.toArray) w2:=zal HX2.out _ 0 X (by rw[List.drop_zero,tk lr]) _ Tryz.underlying184 rfl (by rw[HEL.out];exact hdEl)
    go_wp2_with (first
     | (go_at_call 115;(refine(HY.out _).mono ?_);rintro e w3 ⟨rfl,hB3⟩;have HE3:=qtr HE2 hB3;have HB3:=qbl HB2 hB3;have HK3:=qh (HK2.out.below hB3);clear hB3)
     | (refine zab rfl 23 (.tmp 10) (.tmp 34) rfl w3.heap.size (u8s (nrm us)) rr rr 23 o32 (by exact Blk.new' rfl rfl) (by rw[HNL.out];exact hd24) (zac _) (by rw[HNL.out];rfl) ?_;intro w4 hb4 ho4;have HE4:=qh (ho4.below (HE3.out.alloc HE3.out.size _) HE3.out.size (Nat.le_trans HE3.out.size sy));have HB4:=qal ho4 HB3 (by have:=HB3.out.lt;omega);have HK4:=qh (HK3.out.only_new ho4);have HG:Hid (w.heap.size≠w3.heap.size):=by have:=HB3.out.lt;show _≠_;omega
        have HG2:=qh HE3.out.size;have HC4:=qh hb4
        clear hb4 ho4))
    have HCL4:Hid ((nrm us).length=32):=zd7 us;clear HE2 HB2 HK2 HX2 hldx HE3 HB3 HK3
    go_loopg [37] k (fun kk q wr=>∃(j:Nat) (cur:List UInt8),j≤k∧kk=k-j∧q=.int .i64 j∧Hid (chV cur (kss.drop j)=R)∧Hid (cur.length=32)∧Hid (Blk wr w3.heap.size 23 (u8s cur))∧Hid (Blk wr w.heap.size 23 o32)∧Hid (Below w.heap.size w wr))
    case atStart=>exact⟨0,nrm us,Nat.zero_le _,rfl,rfl,by rw[List.drop_zero];exact HRR,HCL4,HC4,HB4,HE4⟩
    case round =>
     clear HE4 HB4 HK4 HC4 HY HCL4 HRR HNL;obtain⟨j,cur,hjk,hgk,rfl,HV,HCU,HC5,HB5,HE5⟩:=hrel;have HK5:=qh (HK.out.below HE5.out);have HGK:=qh hgk;clear hgk
     by_cases hlt3:j<k
     · have hlt4:(j:Int)<(k:Int):=om
       obtain⟨b,off,A1,n1,c1,l,rfl,hb,hkl,hc,hn1,hr1⟩:=HK5.out.at_ hlt3;have hl:=hr1.len;rw[H32.out l (mg9 hkl.out)]at hl;subst hl;have HR1:=qh hr1
       have hdr:kss.drop j=l :: kss.drop (j+1):=by
        obtain⟨hj,he⟩:=gi9.1 hkl.out;rw[List.drop_eq_getElem_cons hj,he]
       have hv:=HV.out;rw[hdr,chV]at hv;have hM:=fun W h1 h2=>zjl A1 (some ⟨w3.heap.size,0,none⟩) c1 32 l cur W h1 h2
       have hml:=zfc l cur;generalize mB l cur=MB at *;have HM:=qh hM;have HML2:Hid ((u8s MB).length=32):=by show _=_;rw[zaa,hml]
       have HML3:=qh hml;have HVV:=qh hv
       have HRG:Hid (Rd wr (some ⟨w3.heap.size,0,none⟩) 32 (u8s cur)):=by
        have:=HC5.out.rd 0 32 (by rw[zaa,HCU.out];exact lr)
        rwa [List.drop_zero,tk (by rw[zaa,HCU.out];exact lr)]at this
       have HCL5:Hid ((u8s cur).length=32):=by show _=_;rw[zaa,HCU.out]
       clear hr1 hkl hdr hv hM hml HV
       by_cases he:mE l cur=0
       · have hei:(mE l cur:Int)=0:=by rw[he];rfl
         have hv:=HVV.out;rw[if_pos he]at hv;have HVN:=qh hv;generalize (mE l cur:Int)=E at *;subst hei;clear he hv HVV
         go_wp2_with (first
          | (go_at_call 76;(refine(HM.out _ (by exact HR1.out) (by exact HRG.out)).mono ?_);rintro e w6 ⟨rfl,hB6⟩;have HE6:=qtr HE5 hB6;have HB6:=qbl HB5 hB6;have HC6:=qbl HC5 hB6;clear hB6)
          | (refine zab rfl 23 (.tmp 10) (.tmp 45) rfl w3.heap.size (u8s MB) rr rr 23 (u8s cur) (by exact HC6.out) (by rw[HML2.out];exact hd24) (zac _) (by rw[HML2.out,HCL5.out]) ?_;intro w7 hb7 ho7;have HE7:=qh (ho7.below HE6.out HG2.out HE6.out.size);have HB7:=qon ho7 HB6 HG;have HC7:=qh hb7;clear hb7 ho7))
         go_roundg (k-(j+1))
         case measure=>have:=HGK.out;omega
         case rel=>exact⟨j+1,MB,by omega,rfl,by go_num,HVN,HML3,HC7,HB7,HE7⟩
       · have hei:¬(mE l cur:Int)=0:=om
         have hv:=HVV.out;rw[if_neg he]at hv;have HVN:=qh hv;generalize mE l cur=E at *;have HZ32:Hid (o32=u8s R.1):=by show _=_;rw[←HVN.out];rfl
         have HER:Hid (R.2=E):=by show _=_;rw[←HVN.out]
         clear he hv HVV HVN
         go_wp2_with (first
          | (go_at_call 76;(refine(HM.out _ (by exact HR1.out) (by exact HRG.out)).mono ?_);rintro e w6 ⟨rfl,hB6⟩;have HE6:=qtr HE5 hB6;have HB6:=qbl HB5 hB6;have HC6:=qbl HC5 hB6;clear hB6)
          | (refine zab rfl 23 (.tmp 10) (.tmp 45) rfl w3.heap.size (u8s MB) rr rr 23 (u8s cur) (by exact HC6.out) (by rw[HML2.out];exact hd24) (zac _) (by rw[HML2.out,HCL5.out]) ?_;intro w7 hb7 ho7;have HE7:=qh (ho7.below HE6.out HG2.out HE6.out.size);have HB7:=qon ho7 HB6 HG;clear hb7 ho7)
          | (refine zai rfl 23 [] rfl [] rr (.agg o32.toArray) (zsp _) ?_)
          | (refine zab rfl 23 (.tmp 4) (.tmp 49) rfl w.heap.size o32 rr rr 23 o32 (by exact HB7.out) (by exact hd24) (zac _) rfl ?_;intro w8 hb8 ho8;have HE8:=qh (ho8.below HE7.out lr HE7.out.size)))
         rw[HZ32.out]at hb8;exact bodyPost_ret (zak rfl _ _ _ _ rfl hb8 _ Tryz.underlying23 rfl (by rw[HPL.out];exact hd24)) rfl ⟨by rw[HER.out];rfl,HE8.out⟩
     · obtain rfl:j=k:=om
       have hlt4:¬(j:Int)<(j:Int):=om;have hv:=HV.out;rw[List.drop_eq_nil_of_le (by rw[HML.out];exact lr),chV]at hv;have HCL5:Hid ((u8s cur).length=32):=by show _=_;rw[zaa,HCU.out]
       have hld:=zep HC5.out HCL5.out;have HVN:=qh hv;clear hv HV
       go_wp2_with (first
        | (refine zab rfl 23 (.tmp 4) (.tmp 52) rfl w.heap.size (u8s cur) rr rr 23 o32 (by exact HB5.out) (by rw[HCL5.out];exact hd24) (zac _) (by rw[HCL5.out];rfl) ?_;intro w8 hb8 ho8;have HE8:=qh (ho8.below HE5.out lr HE5.out.size)))
       exact bodyPost_ret (zak rfl _ _ _ _ rfl hb8 _ Tryz.underlying23 rfl (by rw[HCL5.out];exact hd24)) rfl ⟨by rw[←HVN.out];rfl,HE8.out⟩
end
theorem bldN9(w:World):(Instr.build 196 [(0,(.int .u32 9:Value))].toArray).run Tryz.prog w=.ok (.agg (n8 9).toArray) w:=by kernel_rfl
theorem zlh(A:Option Addr)(c:Nat)(ks:List UInt8)(w:World)(hk:Rd w A 32 (u8s ks)):
 Calls Tryz.prog 92 #[.slice A 32 c] w fun e w'=>e=.returned (.tuple #[.agg (u8s (pubB ks)).toArray,.int .i64 0])∧Below w.heap.size w w':=by
 have HK:=qh hk;have HE:Hid ((mE ks nine:Int)=0):=by show _=_;rw[show mE ks nine=0 from zu9 hk.len];rfl
 have HM:Hid (∀W B d,Rd W A 32 (u8s ks)→Rd W B 32 (u8s nine)→Calls Tryz.prog 79 #[.slice A 32 c,.slice B 32 d] W fun e w'=>e=.returned (.tuple #[.agg (u8s (pubB ks)).toArray,.int .i64 0])∧Below W.heap.size W w'):=fun W B d h1 h2=>by
  have h5:=zgx A B c d ks nine W h1 h2;rw[HE.out]at h5;exact h5
 have HY:Hid (∀W,Calls Tryz.prog 124 #[.agg (n8 9).toArray] W fun e w'=>e=.returned (.agg (u8s nine).toArray)∧Below W.heap.size W w'):=fun W=>zi9 9 W om
 have HNL:Hid ((u8s nine).length=32):=by show _=_;rw[zaa,zfd.len]
 have HN1:Hid (∀v∈u8s nine,v.oneCell'=true):=zac _;have HPL:Hid ((u8s (pubB ks)).length=32):=by show _=_;rw[zaa,pubB,zfc]
 have HP1:Hid (∀v∈u8s (pubB ks),v.oneCell'=true):=zac _;have HB0:Hid (Blk (w.alloc (.cells o32.toArray 23)) w.heap.size 23 o32):=Blk.new _ _ _;have HE0:Hid (Below w.heap.size w (w.alloc (.cells o32.toArray 23))):=(Below.refl _ w).alloc lr _;generalize u8s (pubB ks)=PB at *;generalize u8s nine=NI at *;have HBD:=qh bldN9;generalize n8 9=E9 at *;clear hk HE
 go_enter Tryz.func92, Tryz.ntmps92
 go_wp2_with (first
  | (refine zai rfl 196 [(0,.const (.int .u32 9))] rfl _ rr (.agg E9.toArray) (HBD.out _) ?_)
  | (go_at_call 124;(with_reducible refine(HY.out _).mono ?_);rintro e w2 ⟨rfl,hB2⟩;have HE2:=qtr HE0 hB2;have HB2:=qbl HB0 hB2;clear hB2)
  | (refine zab rfl 23 (.tmp 4) (.tmp 6) rfl w2.heap.size NI rr rr 23 o32 (by exact Blk.new' rfl rfl) (by rw[HNL.out];exact hd24) HN1.out (by rw[HNL.out];rfl) ?_;intro w3 hb3 ho3;have HE3:=qh (ho3.below (HE2.out.alloc HE2.out.size _) HE2.out.size (Nat.le_trans HE2.out.size sy));have HB3:=qal ho3 HB2 (by have:=HB2.out.lt;omega);have HN3:Hid (Rd w3 (some ⟨w2.heap.size,0,none⟩) 32 NI):=by have:=hb3.rd 0 32 (by rw[HNL.out];exact lr);rwa [List.drop_zero,tk (by rw[HNL.out];exact lr)]at this
     clear hb3 ho3)
  | (go_at_call 79;(with_reducible refine(HM.out _ _ _ (by exact HK.out.below HE3.out) (by exact HN3.out)).mono ?_);rintro e w4 ⟨rfl,hB4⟩;have HE4:=qtr HE3 hB4;have HB4:=qbl HB3 hB4;clear hB4)
  | (refine zab rfl 23 (.tmp 2) (.tmp 10) rfl w.heap.size PB rr rr 23 o32 (by exact HB4.out) (by rw[HPL.out];exact hd24) HP1.out (by rw[HPL.out];rfl) ?_;intro w5 hb5 ho5;have HE5:=qh (ho5.below HE4.out lr HE4.out.size)))
 exact bodyPost_ret (zak rfl _ _ _ _ rfl hb5 _ Tryz.underlying23 rfl (by rw[HPL.out];exact hd24)) rfl ⟨rfl,HE5.out⟩
section
attribute [local go_sem ↓] zb0 zeb
theorem zom(A C:Option Addr)(c m d:Nat)(us:List UInt8)(kss:List (List UInt8))(w:World)(hu:Rd w A 32 (u8s us))(hk:RdB w C m kss)(h32:∀k∈kss,k.length=32)(hm:m≤1000):
 Calls Tryz.prog 93 #[.slice A 32 c,.slice C m d] w fun e w'=>e=.returned (.tuple #[.agg (u8s (chV (nrm us) kss).1).toArray,.int .i64 ((chV (nrm us) kss).2:Int)])∧Below w.heap.size w w':=by
 have hcl:=zfs kss (nrm us) (zd7 us);obtain⟨R,hR⟩:=ex9 (chV (nrm us) kss);rw[←hR]at hcl ⊢;have HRR:Hid (chV (nrm us) kss=R):=hR.symm;have HU:=qh hu;have HK:=qh hk;have H32:=qh h32;have HML:Hid (kss.length=m):=by obtain⟨_,_,h,_⟩:=hk;exact h
 have HRD:Hid (∀W,Rd W A 32 (u8s us)→Calls Tryz.prog 119 #[.slice A 32 c] W fun e w'=>e=.returned (.tuple #[.agg (n8 (readN us)).toArray,.int .i64 0])∧Below W.heap.size W w'):=fun W h=>zqb A c us W h
 have HY:Hid (∀W,Calls Tryz.prog 124 #[.agg (n8 (readN us)).toArray] W fun e w'=>e=.returned (.agg (u8s (nrm us)).toArray)∧Below W.heap.size W w'):=fun W=>zi9 (readN us) W (Nat.lt_trans (zmz us) (Nat.le_of_ble_eq_true rfl))
 have HNL:Hid ((u8s (nrm us)).length=32):=by show _=_;rw[zaa,zd7]
 have HPL:Hid ((u8s R.1).length=32):=by show _=_;rw[zaa,hcl]
 have HB0:Hid (Blk (w.alloc (.cells o32.toArray 23)) w.heap.size 23 o32):=Blk.new _ _ _;have HE0:Hid (Below w.heap.size w (w.alloc (.cells o32.toArray 23))):=(Below.refl _ w).alloc lr _;have HEL:Hid ((n8 (readN us)).length=8):=zaq _;have HE1':=qh (za4 (readN us));generalize n8 (readN us)=X at *;clear hu hk h32 hR hcl
 go_enter Tryz.func93, Tryz.ntmps93
 go_upto_region 4 with (first
  | (go_at_call 119;(refine(HRD.out _ (by exact HU.out.alloc _)).mono ?_);rintro e w1 ⟨rfl,hB1⟩;have HE1:=qtr HE0 hB1;have HB1:=qbl HB0 hB1;clear hB1)
  | (refine zab rfl 196 (.tmp 6) (.tmp 14) rfl w1.heap.size X rr rr 196 o8 (by exact Blk.new' rfl rfl) (by rw[HEL.out];exact hdN8 8 rfl) HE1'.out (by rw[HEL.out];rfl) ?_;intro w2 hb2 ho2;have HE2:=qh (ho2.below (HE1.out.alloc HE1.out.size _) HE1.out.size (Nat.le_trans HE1.out.size sy));have HB2:=qal ho2 HB1 (by have:=HB1.out.lt;omega);have HX2:=qh hb2;clear hb2 ho2))
 have HK2:=qh (HK.out.below HE2.out);have hml:=HML.out;clear HRD HE1 HB1 HU HE0 HB0 hml;go_wp2
 go_loop [8] (fun q=>∃k:Nat,k≤m∧q=.int .i64 k) (fun q=>m-(intOf q).toNat)
 case atStart=>exact⟨0,Nat.zero_le _,rfl⟩
 case round =>
  obtain⟨k,hkm,rfl⟩:=hrel
  by_cases hlt:k<m
  · have hlt2:(k:Int)<(m:Int):=om
    obtain⟨b,off,A1,n1,c1,l,rfl,hb,hkl,hc,hn1,hr1⟩:=HK2.out.at_ hlt;have hl:=hr1.len;rw[H32.out l (mg9 hkl.out)]at hl;subst hl;clear hr1 hkl;go_wp2
    go_round
    case rel=>exact⟨k+1,by omega,by go_num⟩
    case measure=>simp[intOf];omega
  · obtain rfl:k=m:=om
    have hlt2:¬(k:Int)<(k:Int):=om;have hldx:(ldAt 196 (.pointer (some ⟨w1.heap.size,0,none⟩))).run Tryz.prog w2=.ok (.agg X.toArray) w2:=zal HX2.out _ 0 X (by rw[List.drop_zero,tk lr]) _ Tryz.underlying196 rfl (by rw[HEL.out];exact hdN8 8 rfl)
    go_wp2_with (first
     | (go_at_call 124;(refine(HY.out _).mono ?_);rintro e w3 ⟨rfl,hB3⟩;have HE3:=qtr HE2 hB3;have HB3:=qbl HB2 hB3;have HK3:=qh (HK2.out.below hB3);clear hB3)
     | (refine zab rfl 23 (.tmp 9) (.tmp 34) rfl w3.heap.size (u8s (nrm us)) rr rr 23 o32 (by exact Blk.new' rfl rfl) (by rw[HNL.out];exact hd24) (zac _) (by rw[HNL.out];rfl) ?_;intro w4 hb4 ho4;have HE4:=qh (ho4.below (HE3.out.alloc HE3.out.size _) HE3.out.size (Nat.le_trans HE3.out.size sy));have HB4:=qal ho4 HB3 (by have:=HB3.out.lt;omega);have HK4:=qh (HK3.out.only_new ho4);have HG:Hid (w.heap.size≠w3.heap.size):=by have:=HB3.out.lt;show _≠_;omega
        have HG2:=qh HE3.out.size;have HC4:=qh hb4
        clear hb4 ho4))
    have HCL4:Hid ((nrm us).length=32):=zd7 us;clear HE2 HB2 HK2 HX2 hldx HE3 HB3 HK3
    go_loopg [10] k (fun kk q wr=>∃(j:Nat) (cur:List UInt8),j≤k∧kk=k-j∧q=.int .i64 j∧Hid (chV cur (kss.drop j)=R)∧Hid (cur.length=32)∧Hid (Blk wr w3.heap.size 23 (u8s cur))∧Hid (Blk wr w.heap.size 23 o32)∧Hid (Below w.heap.size w wr))
    case atStart=>exact⟨0,nrm us,Nat.zero_le _,rfl,rfl,by rw[List.drop_zero];exact HRR,HCL4,HC4,HB4,HE4⟩
    case round =>
     clear HE4 HB4 HK4 HC4 HY HCL4 HRR HNL;obtain⟨j,cur,hjk,hgk,rfl,HV,HCU,HC5,HB5,HE5⟩:=hrel;have HK5:=qh (HK.out.below HE5.out);have HGK:=qh hgk;clear hgk
     by_cases hlt3:j<k
     · have hlt4:(j:Int)<(k:Int):=om
       obtain⟨b,off,A1,n1,c1,l,rfl,hb,hkl,hc,hn1,hr1⟩:=HK5.out.at_ hlt3;have hl:=hr1.len;rw[H32.out l (mg9 hkl.out)]at hl;subst hl;have HR1:=qh hr1
       have hdr:kss.drop j=l :: kss.drop (j+1):=by
        obtain⟨hj,he⟩:=gi9.1 hkl.out;rw[List.drop_eq_getElem_cons hj,he]
       have hv:=HV.out;rw[hdr,chV]at hv;have hM:=fun W h1 h2=>zgx A1 (some ⟨w3.heap.size,0,none⟩) c1 32 l cur W h1 h2
       have hml:=zfc l cur;generalize mB l cur=MB at *;have HM:=qh hM;have HML2:Hid ((u8s MB).length=32):=by show _=_;rw[zaa,hml]
       have HML3:=qh hml;have HVV:=qh hv
       have HRG:Hid (Rd wr (some ⟨w3.heap.size,0,none⟩) 32 (u8s cur)):=by
        have:=HC5.out.rd 0 32 (by rw[zaa,HCU.out];exact lr)
        rwa [List.drop_zero,tk (by rw[zaa,HCU.out];exact lr)]at this
       have HCL5:Hid ((u8s cur).length=32):=by show _=_;rw[zaa,HCU.out]
       clear hr1 hkl hdr hv hM hml HV
       by_cases he:mE l cur=0
       · have hei:(mE l cur:Int)=0:=by rw[he];rfl
         have hv:=HVV.out;rw[if_pos he]at hv;have HVN:=qh hv;generalize (mE l cur:Int)=E at *;subst hei;clear he hv HVV;have HV5:Hid (Below wr.heap.size wr { wr with drawn:=wr.drawn+1 }):=(Below.refl _ wr).drew;have hcd:({ wr with drawn:=wr.drawn+1 } : World).cell? ⟨b,off+j,none⟩=some (.slice A1 32 c1):=hc;go_wp2;refine kgo kr 9 (fun W'=>W'.cell? ⟨b,off+j,none⟩=some (.slice A1 32 c1)) hcd (fun _ _ _ _ _ h=>h) ?_;refine kp 0 (.slice (some ⟨b,off,none⟩) k d) rfl kr (fun _=>kr) ?_;refine kp 1 (.int .i64 (j:Int)) rfl kr (fun _=>kr) ?_;refine kp 2 (.pointer (some ⟨b,off+j,none⟩)) rfl kr (fun _=>(zbn (t:=87) (e:=22) (x:=.tmp 42) (y:=.tmp 43) (n:=k) (c:=d) (sz:=1) rr kr kr hlt3 Tryz.underlying87 szSl).trans (by rw[Nat.mul_one])) ?_;refine kl 3 (.slice A1 32 c1) rfl kr (fun w' hw'=>za5 (t:=22) (x:=.tmp 44) rr kr agSl hw') ?_;refine kp 4 (.slice (some ⟨w3.heap.size,0,none⟩) 32 32) rfl kr (fun _=>kr) ?_;intro q8 q9;clear q8 q9;refine AnyK.enter 5 (d:=some 47) (f:=79) (args:=#[.slice A1 32 c1,.slice (some ⟨w3.heap.size,0,none⟩) 32 32]) rr kr kr ?_;refine(HM.out _ (HR1.out.below HV5.out) (HRG.out.below HV5.out)).mono ?_;rintro e w6 ⟨rfl,hB6⟩;have hB6':Below wr.heap.size wr w6:=HV5.out.trans hB6;refine⟨_,rfl,fun _=>(hB6'.cell hb).trans hc,?_⟩;have HE6:=qh (HE5.out.trans (hB6'.mono HE5.out.size));have HB6:=qh (HB5.out.below hB6' HB5.out.lt);have HC6:=qh (HC5.out.below hB6' HC5.out.lt);refine AnyK.pure 6 (v:=.tuple #[.agg (u8s MB).toArray,.int .i64 0]) rfl kr (fun _ _ _ h=>h) rfl (fun _=>kr) (fun _=>(hB6'.cell hb).trans hc) ?_;refine AnyK.pure 7 (v:=.agg (u8s MB).toArray) rfl kr (fun _ _ _ h=>h) rfl (fun _=>kr) (fun _=>(hB6'.cell hb).trans hc) ?_;refine AnyK.pure 8 (v:=.int .i64 0) rfl kr (fun _ _ _ h=>h) rfl (fun _=>kr) (fun _=>(hB6'.cell hb).trans hc) ?_;refine AnyK.storeAll 9 w3.heap.size (u8s MB) 23 (u8s cur) rr rfl rfl rr kr kr kr HC6.out (by rw[HML2.out];exact hd24) (zac _) (by rw[HML2.out,HCL5.out]) (fun _ _ _ h=>(by cases h)) ?_;intro w7 hb7 ho7;have HE7:=qh (ho7.below HE6.out HG2.out HE6.out.size);have HB7:=qon ho7 HB6 HG;have HC7:=qh hb7;refine AnyK.val 10 (v:=.int .i64 0) rr kr rfl kr (fun h=>(by cases h)) ?_;refine AnyK.done kr ?_;clear hB6 hB6' hb7 ho7 HC6 HB6 HE6 HV5 hcd;go_wp2;go_roundg (k-(j+1))
         case measure=>have:=HGK.out;omega
         case rel=>exact⟨j+1,MB,by omega,rfl,by go_num,HVN,HML3,HC7,HB7,HE7⟩
       · have hei:¬(mE l cur:Int)=0:=om
         have hv:=HVV.out;rw[if_neg he]at hv;have HVN:=qh hv;generalize mE l cur=E at *;have HZ32:Hid (o32=u8s R.1):=by show _=_;rw[←HVN.out];rfl
         have HER:Hid (R.2=E):=by show _=_;rw[←HVN.out]
         clear he hv HVV HVN;have HV5:Hid (Below wr.heap.size wr { wr with drawn:=wr.drawn+1 }):=(Below.refl _ wr).drew;have hcd:({ wr with drawn:=wr.drawn+1 } : World).cell? ⟨b,off+j,none⟩=some (.slice A1 32 c1):=hc;go_wp2;refine kgo kr 9 (fun W'=>W'.cell? ⟨b,off+j,none⟩=some (.slice A1 32 c1)) hcd (fun _ _ _ _ _ h=>h) ?_;refine kp 0 (.slice (some ⟨b,off,none⟩) k d) rfl kr (fun _=>kr) ?_;refine kp 1 (.int .i64 (j:Int)) rfl kr (fun _=>kr) ?_;refine kp 2 (.pointer (some ⟨b,off+j,none⟩)) rfl kr (fun _=>(zbn (t:=87) (e:=22) (x:=.tmp 42) (y:=.tmp 43) (n:=k) (c:=d) (sz:=1) rr kr kr hlt3 Tryz.underlying87 szSl).trans (by rw[Nat.mul_one])) ?_;refine kl 3 (.slice A1 32 c1) rfl kr (fun w' hw'=>za5 (t:=22) (x:=.tmp 44) rr kr agSl hw') ?_;refine kp 4 (.slice (some ⟨w3.heap.size,0,none⟩) 32 32) rfl kr (fun _=>kr) ?_;intro q8 q9;clear q8 q9;refine AnyK.enter 5 (d:=some 47) (f:=79) (args:=#[.slice A1 32 c1,.slice (some ⟨w3.heap.size,0,none⟩) 32 32]) rr kr kr ?_;refine(HM.out _ (HR1.out.below HV5.out) (HRG.out.below HV5.out)).mono ?_;rintro e w6 ⟨rfl,hB6⟩;have hB6':Below wr.heap.size wr w6:=HV5.out.trans hB6;refine⟨_,rfl,fun _=>(hB6'.cell hb).trans hc,?_⟩;have HE6:=qh (HE5.out.trans (hB6'.mono HE5.out.size));have HB6:=qh (HB5.out.below hB6' HB5.out.lt);have HC6:=qh (HC5.out.below hB6' HC5.out.lt);refine AnyK.pure 6 (v:=.tuple #[.agg (u8s MB).toArray,.int .i64 (E:Int)]) rfl kr (fun _ _ _ h=>h) rfl (fun _=>kr) (fun _=>(hB6'.cell hb).trans hc) ?_;refine AnyK.pure 7 (v:=.agg (u8s MB).toArray) rfl kr (fun _ _ _ h=>h) rfl (fun _=>kr) (fun _=>(hB6'.cell hb).trans hc) ?_;refine AnyK.pure 8 (v:=.int .i64 (E:Int)) rfl kr (fun _ _ _ h=>h) rfl (fun _=>kr) (fun _=>(hB6'.cell hb).trans hc) ?_;refine AnyK.storeAll 9 w3.heap.size (u8s MB) 23 (u8s cur) rr rfl rfl rr kr kr kr HC6.out (by rw[HML2.out];exact hd24) (zac _) (by rw[HML2.out,HCL5.out]) (fun _ _ _ h=>(by cases h)) ?_;intro w7 hb7 ho7;have HE7:=qh (ho7.below HE6.out HG2.out HE6.out.size);have HB7:=qon ho7 HB6 HG;have HC7:=qh hb7;refine AnyK.val 10 (v:=.int .i64 (E:Int)) rr kr rfl kr (fun h=>(by cases h)) ?_;refine AnyK.done kr ?_;clear hB6 hB6' hb7 ho7 HC6 HB6 HE6 HV5 hcd
         go_wp2_with (first
          | (refine zai rfl 23 [] rfl [] rr (.agg o32.toArray) (zsp _) ?_)
          | (refine zab rfl 23 (.tmp 4) (.tmp 52) rfl w.heap.size o32 rr rr 23 o32 (by exact HB7.out) (by exact hd24) (zac _) rfl ?_;intro w8 hb8 ho8;have HE8:=qh (ho8.below HE7.out lr HE7.out.size)))
         rw[HZ32.out]at hb8;exact bodyPost_ret (zak rfl _ _ _ _ rfl hb8 _ Tryz.underlying23 rfl (by rw[HPL.out];exact hd24)) rfl ⟨by rw[HER.out];rfl,HE8.out⟩
     · obtain rfl:j=k:=om
       have hlt4:¬(j:Int)<(j:Int):=om;have hv:=HV.out;rw[List.drop_eq_nil_of_le (by rw[HML.out];exact lr),chV]at hv;have HCL5:Hid ((u8s cur).length=32):=by show _=_;rw[zaa,HCU.out]
       have hld:=zep HC5.out HCL5.out;have HVN:=qh hv;clear hv HV
       go_wp2_with (first
        | (refine zab rfl 23 (.tmp 4) (.tmp 54) rfl w.heap.size (u8s cur) rr rr 23 o32 (by exact HB5.out) (by rw[HCL5.out];exact hd24) (zac _) (by rw[HCL5.out];rfl) ?_;intro w8 hb8 ho8;have HE8:=qh (ho8.below HE5.out lr HE5.out.size)))
       exact bodyPost_ret (zak rfl _ _ _ _ rfl hb8 _ Tryz.underlying23 rfl (by rw[HCL5.out];exact hd24)) rfl ⟨by rw[←HVN.out];rfl,HE8.out⟩
end
end Go.Proofs.YtpgpaenloaphaaaGreat
