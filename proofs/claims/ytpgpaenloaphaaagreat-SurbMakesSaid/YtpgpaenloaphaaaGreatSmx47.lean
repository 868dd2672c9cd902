/- Part of the proof. -/
import Derived.Test.YtpgpaenloaphaaaGreatSmx33
import Derived.Test.YtpgpaenloaphaaaGreatSmx45
set_option maxRecDepth 100000
set_option maxHeartbeats 0
namespace Go.Proofs.YtpgpaenloaphaaaGreat
open Go.RowKit
theorem zoe(A:Option Addr)(n c:Nat)(k:List UInt8)(A2:Option Addr)(n2 c2:Nat)(l:List UInt8)(w:World)(h:Rd w A n (u8s k))(hn:n≤100000000)(h2:Rd w A2 n2 (u8s l))(hn2:n2≤10000000):
 Calls Tryz.prog 82 #[.slice A n c,.slice A2 n2 c2] w fun e w'=>∃A' c',e=.returned (.slice A' 16 c')∧16≤c'∧w'.ownsRow w.heap.size 5 1 (.slice A' 16 c') 16 (u8s ((Mc.tag k l).take 16))∧Below w.heap.size w w':=by
 have HT:=qh (zi4 A n c k A2 n2 c2 l w h hn h2 hn2);have htl:=Mc.tag_len k l;generalize Mc.tag k l=T at *;have HTL:Hid ((u8s T).length=32):=by show _=_;rw[zaa,htl]
 have HR:Hid (∀W g,Blk W g 23 (u8s T)→Rd W (some ⟨g,0,none⟩) 16 (u8s (T.take 16))):=fun W g hb=>by
  have h6:=hb.rd 0 16 (by rw[zaa,htl];omega)
  rwa [List.drop_zero,zaz]at h6
 clear h h2 htl
 go_enter Tryz.func82, Tryz.ntmps82
 go_wp2_with (first
  | (go_at_call 128;(with_reducible refine HT.out.mono ?_);rintro e w1 ⟨rfl,hB1⟩;have HE1:=qh hB1;clear hB1)
  | (refine zab rfl 23 (.tmp 5) (.tmp 8) rfl w1.heap.size (u8s T) rr rr 23 (u8s (List.replicate 32 0)) (by exact Blk.new' rfl rfl) (by rw[HTL.out];exact hd24) (zac _) (by rw[HTL.out];rfl) ?_;intro w2 hb2 ho2;have hs1:=HE1.out.size;have HE2:=qh (ho2.below (HE1.out.alloc hs1 _) hs1 (Nat.le_trans hs1 sy));have HR2:=qh (HR.out _ _ hb2);clear hb2 ho2)
  | (go_at_call 12;(with_reducible refine(zbs _ _ _ _ _ (by exact HR2.out) om).mono ?_);rintro e w3 ⟨A3,c3,rfl,hc3,hown3,hB3⟩;have HO3:=qh (zbj hown3 HE2.out.size);have HE3:=qtr HE2 hB3;clear hown3 hB3))
 go_ret;exact⟨A3,c3,rfl,hc3,HO3.out,HE3.out⟩
theorem zid(key:List UInt8)(hk:key.length=32)(A:Option Addr)(n c:Nat)(a:List UInt8)(B:Option Addr)(m d:Nat)(b:List UInt8)(w:World)(h:Rd w A n (u8s a))(h2:Rd w B m (u8s b))(hn:n≤1000000)(hm:m≤1000000):
 Calls Tryz.prog 50 #[.agg (u8s key).toArray,.slice A n c,.slice B m d] w fun e w'=>∃A' c',e=.returned (.slice A' 16 c')∧16≤c'∧w'.ownsRow w.heap.size 5 1 (.slice A' 16 c') 16 (u8s ((Mc.tag key (a++b)).take 16))∧Below w.heap.size w w':=by
 have HA:=qh h;have HB:=qh h2
 have HSH:Hid (∀W A3 c3,Blk W w.heap.size 23 (u8s key)→Rd W A3 (n+m) (u8s (a++b))→Calls Tryz.prog 82 #[.slice (some ⟨w.heap.size,0,none⟩) 32 32,.slice A3 (n+m) c3] W fun e w'=>∃A' c',e=.returned (.slice A' 16 c')∧16≤c'∧w'.ownsRow W.heap.size 5 1 (.slice A' 16 c') 16 (u8s ((Mc.tag key (a++b)).take 16))∧Below W.heap.size W w'):=fun W A3 c3 hb hr=>by
  refine zoe _ 32 32 key A3 (n+m) c3 (a++b) W ?_ om hr om;have h6:=hb.rd 0 32 (by rw[zaa,hk];omega)
  rwa [List.drop_zero,tk (by rw[zaa,hk];omega)]at h6
 have HE0:Hid (Below w.heap.size w (w.alloc (.cells (u8s key).toArray 23)).drew):=((Below.refl _ w).alloc lr _).drew;have HK0:Hid (Blk (w.alloc (.cells (u8s key).toArray 23)).drew w.heap.size 23 (u8s key)):=(Blk.new w _ _).drew;clear h h2 hk
 go_enter Tryz.func50, Tryz.ntmps50
 go_wp2_with fail
 go_region_held3 (fun _=>True) (trivial) ((first
  | (go_at_call 12;(refine(zbs A n c a _ (by exact HA.out.below HE0.out) om).mono ?_);rintro e w1 ⟨A1,c1,rfl,hc1,hown1,hB1⟩;have HE1:=qtr HE0 hB1;have HK1:=qbl HK0 hB1;have HO1:=qh hown1;clear hown1 hB1)
  | (refine zms rfl (.tmp 9) (.tmp 10) 22 rfl (w.alloc (.cells (u8s key).toArray 23)).drew.heap.size 5 1 1 Tryz.underlying22 eU8 (.slice A1 n c1) n (u8s a) rr HO1.out B m d (u8s b) rr (by exact(HB.out.below HE1.out).toS) (zac _) om om (by have h9:=HK1.out.lt;simp;omega) ?_;intro A2 c2 w2 hown2 hc2 hg2 hat2;rw[←zae]at hown2;have HE2:=qh (HE1.out.grown hg2 HE1.out.size (fun k hk=>by have h9:=(HO1.out.lt k hk).1;simp at h9;omega));have HK2:=qh (HK1.out.grown hg2 (fun e=>by have h9:=(HO1.out.lt _ e.symm).1;simp at h9;omega));have HR2:=qh (Rd.of_own hown2);clear hown2 hg2 hat2)
  | (go_at_call 82;(refine(HSH.out _ _ _ (by exact HK2.out) (by exact HR2.out)).mono ?_);rintro e w3 ⟨A3,c3,rfl,hc3,hown3,hB3⟩;have HO3:=qh (zbj hown3 HE2.out.size);have HE3:=qtr HE2 hB3;clear hown3 hB3)))
 go_wp2_with fail
 go_ret;exact⟨A3,c3,rfl,hc3,HO3.out,HE3.out⟩
section
theorem hd27:(Tryz.prog.info? 27).map (·.size)=some 192:=by kernel_rfl
theorem zvh(v:Value):Instr.loadAt 27 v=ldAt 27 v:=rfl
theorem zu6{w:World}{g:Nat}{t:TypeId}{C:List Value}(hb:Blk w g t C)(hl:C.length=192):(ldAt 27 (.pointer (some ⟨g,0,none⟩))).run Tryz.prog w=.ok (.agg C.toArray) w :=
 zal hb _ 0 C (by rw[List.drop_zero,tk lr]) _ Tryz.underlying27 rfl (by rw[hl];exact hd27)
attribute [local go_sem ↓] zb0 zvh
end
theorem zqf(s:Sp)(hs:s.ok)(w:World):
 Calls Tryz.prog 48 #[.agg s.cells.toArray] w fun e w'=>e=.returned (.tuple #[.agg (u8s (mB s.blind s.alpha)).toArray,.int .i64 (mE s.blind s.alpha:Int)])∧Below w.heap.size w w':=by
 obtain⟨C,hC⟩:=ex9 (s.cells);have HCL:Hid (C.length=192):=(by show _=_;rw[hC];exact Sp.cells_len hs)
 have HM:Hid (∀W,Blk W w.heap.size 27 C→Calls Tryz.prog 79 #[.slice (some ⟨w.heap.size,96,none⟩) 32 32,.slice (some ⟨w.heap.size,128,none⟩) 32 32] W fun e w'=>e=.returned (.tuple #[.agg (u8s (mB s.blind s.alpha)).toArray,.int .i64 (mE s.blind s.alpha:Int)])∧Below W.heap.size W w'):=fun W h=>by
  rw[hC]at h;exact zgx _ _ 32 32 s.blind s.alpha W (Sp.rd h hs 96 s.blind om (Sp.at_blind hs)) (Sp.rd h hs 128 s.alpha om (Sp.at_alpha hs))
 have HML:=qh (zfc s.blind s.alpha);rw[←hC];generalize mB s.blind s.alpha=M at *;generalize (mE s.blind s.alpha:Int)=E at *;clear hC hs
 have HB0:Hid (Blk ((w.alloc (.cells C.toArray 27)).alloc (.cells o32.toArray 23)) w.heap.size 27 C∧Blk ((w.alloc (.cells C.toArray 27)).alloc (.cells o32.toArray 23)) (w.heap.size+1) 23 o32∧Below w.heap.size w ((w.alloc (.cells C.toArray 27)).alloc (.cells o32.toArray 23))) :=
  ⟨(Blk.new w _ _).alloc _,Blk.new' sy rfl,((Below.refl _ w).alloc lr _).alloc sy _⟩
 go_enter Tryz.func48, Tryz.ntmps48
 go_wp2;refine kgo kr 8 (fun w'=>True) trivial (fun _ _ _ _ _ h=>h) ?_;refine kp 0 (.pointer (some ⟨w.heap.size,0,none⟩)) rfl kr (fun _=>kr) ?_;refine kp 1 (.pointer (some ⟨w.heap.size,96,none⟩)) rfl kr (fun _=>kr) ?_;refine kp 2 (.slice (some ⟨w.heap.size,96,none⟩) 32 32) rfl kr (fun _=>kr) ?_;refine kp 3 (.pointer (some ⟨w.heap.size,128,none⟩)) rfl kr (fun _=>kr) ?_;refine kp 4 (.slice (some ⟨w.heap.size,128,none⟩) 32 32) rfl kr (fun _=>kr) ?_;intro q8 q9;clear q8 q9;refine AnyK.enter 5 (d:=some 9) (f:=79) (args:=#[.slice (some ⟨w.heap.size,96,none⟩) 32 32,.slice (some ⟨w.heap.size,128,none⟩) 32 32]) rr kr kr ?_;refine(HM.out _ (by exact HB0.out.1.drew)).mono ?_;rintro e w2 ⟨rfl,hB⟩;refine⟨_,rfl,fun _=>trivial,?_⟩;have hB':Below ((w.alloc (.cells C.toArray 27)).alloc (.cells o32.toArray 23)).drew.heap.size ((w.alloc (.cells C.toArray 27)).alloc (.cells o32.toArray 23)).drew w2:=hB;have hz2:=HB0.out.2.1.drew.below hB' HB0.out.2.1.drew.lt;have hE2:=HB0.out.2.2.drew.trans (hB'.mono HB0.out.2.2.drew.size);refine AnyK.pure 6 (v:=.agg (u8s M).toArray) rfl kr (fun _ _ _ h=>h) rfl (fun _=>kr) (fun _=>trivial) ?_;refine AnyK.pure 7 (v:=.int .i64 E) rfl kr (fun _ _ _ h=>h) rfl (fun _=>kr) (fun _=>trivial) ?_;refine AnyK.storeAll 8 (w.heap.size+1) (u8s M) 23 o32 rr rfl rfl rr kr kr kr hz2 (by rw[zaa,HML.out];exact hd32) (zac _) (by rw[zaa,HML.out];rfl) (fun _ _ _ _=>trivial) ?_;intro w3 hb3 ho3;have HE3:=qh (ho3.below hE2 om hE2.size);refine AnyK.val 9 (v:=.int .i64 E) rr kr rfl kr (fun _=>trivial) ?_;refine AnyK.done kr ?_;have HB3:=qh hb3;clear hb3 ho3 hz2 hE2 hB hB';go_wp2;exact bodyPost_ret (zak (p:=2) (u:=3) (ty:=23) rfl _ (w.heap.size+1) 23 (u8s M) kr HB3.out _ Tryz.underlying23 rfl (by rw[zaa,HML.out];exact hd32)) rfl ⟨by kernel_rfl,HE3.out⟩
section
attribute [local go_sem ↓] zvh zb0 znk zpr
theorem Two.fresh2{B G T:Nat}{w:World}{v10 v11:Value}{n10 n11:Nat}{acc:List Value}{sc:List (List UInt8)}(h:Two B G T w v10 v11 n10 n11 acc sc)(hG:G<w.heap.size){b:Nat}(hb:w.heap.size≤b):b≠G∧v10.ownBlock≠some b∧v11.ownBlock≠some b:=by
 obtain⟨vs,h1,h2,_⟩:=h;refine⟨by omega,fun e2=>?_,fun e2=>?_⟩
 · have:=(h1.lt _ e2).2;omega
 · have:=(h2.lt _ e2).2;omega
theorem zcSrz:Tryz.zeroCells27 = (u8s (List.replicate 192 0)).toArray:=by kernel_rfl
theorem iSr:(Tryz.prog.info? 27).map (fun i=>(i.zero,i.size,i.bytes))=some (some (.agg (u8s (List.replicate 192 0)).toArray),192,192):=by kernel_rfl
theorem eSrz:ElemIs Tryz.prog 27 192 192:=ElemIs.of iSr (by show(u8s (List.replicate 192 0)).toArray.size=192;rw[List.size_toArray,zaa,lp9]) om
theorem z1sr:(Tryz.prog.info? 27).map (fun i=>((i.zero.map (fun z=>z.cells.size)),i.size))=some (some 192,192):=by kernel_rfl
theorem pl72(fields:Array Field)(h:Tryz.prog.underlying 27 = some (.struct fields))(w:World):(fields.mapM (fun f=>do pure (f.offset,←sizeOf f.type)):Sem (Array (Nat × Nat))).run Tryz.prog w=.ok places69 w:=by
 rw[Tryz.underlying27]at h
 injection h with h
 injection h with h
 subst h
 kernel_rfl
theorem zxt(s:Sp)(h:s.ok)(w:World):(Instr.build 27 #[(0,.agg (u8s s.keys).toArray),(1,.agg (u8s s.alpha).toArray),(2,.agg (u8s s.secret).toArray)]).run Tryz.prog w=.ok (.agg s.cells.toArray) w:=by
 have e0:(u8s s.keys).length=128:=by rw[zaa,Sp.keys_len h]
 have e1:(u8s s.alpha).length=32:=by rw[zaa,h.2.2.2.2.1]
 have e2:(u8s s.secret).length=32:=by rw[zaa,h.2.2.2.2.2]
 refine zb2 Tryz.zeroValue27 Tryz.underlying27 (pl72 _ Tryz.underlying27) ?_ w;rw[zcSrz]
 show Instr.fill _ _ [(0,_),(1,_),(2,_)]=_
 rw [zas (cs:=u8s s.keys) rfl (by rw[e0];rfl) (by rw[e0,zaa,lp9];omega),
   zas (cs:=u8s s.alpha) rfl (by rw[e1];rfl) (by rw[length_splice _ _ _ (by rw[e0,zaa,lp9];omega),e1,zaa,lp9];omega),
   zas (cs:=u8s s.secret) rfl (by rw[e2];rfl) (by rw[length_splice _ _ _ (by rw[length_splice _ _ _ (by rw[e0,zaa,lp9];omega),e1,zaa,lp9];omega),length_splice _ _ _ (by rw[e0,zaa,lp9];omega),e2,zaa,lp9];omega)]
 have:splice (splice (splice (u8s (List.replicate 192 0)) 0 (u8s s.keys)) 128 (u8s s.alpha)) 160 (u8s s.secret)=s.cells:=by
  rw[splice_splice_splice _ _ _ _ 128 32 e0 e1 (by rw[zaa,lp9,e2])];rw[Sp.cells,Sp.bytes_is,zae,zae]
 rw[this]
 rfl
theorem zp3(A C:Option Addr)(n c m d:Nat)(w:World)(h:n≠32∨m<1∨5<m):
 Calls Tryz.prog 57 #[.slice A n c,.slice C m d] w fun e w'=>e=.returned (.tuple #[.slice none 0 0,.int .i64 2])∧w=w':=by
 rcases Decidable.em (n=32)with h1|h1
 · subst h1
   rcases Nat.lt_or_ge m 1 with h2|h2
   · obtain rfl:m=0:=om
     clear h
     go_enter Tryz.func57, Tryz.ntmps57
     go_wp2;go_ret2;exact⟨rfl,rfl⟩
   · have h3:¬(m:Int)=0:=om
     have h4:(m:Int)>5:=om;clear h
     go_enter Tryz.func57, Tryz.ntmps57
     go_wp2;go_ret2;exact⟨rfl,rfl⟩
 · have hn:((n:Int) != 32)=true:=by rw[bne_iff_ne];omega
   clear h h1
   go_enter Tryz.func57, Tryz.ntmps57
   go_wp2;go_ret2;exact⟨rfl,rfl⟩
theorem zof(A C:Option Addr)(c m d:Nat)(xs:List UInt8)(pubs:List (List UInt8))(w:World)(hx:Rd w A 32 (u8s xs))(hc:32≤c)(hp:RdB w C m pubs)(h32:∀p∈pubs,p.length=32)(hm0:1≤m)(hm:m≤5):
 Calls Tryz.prog 57 #[.slice A 32 c,.slice C m d] w fun e w'=>∃A' n' c',e=.returned (.tuple #[.slice A' n' c',.int .i64 ((sch [] [xs] (pubB xs) pubs).2:Int)])∧n'≤c'∧RdS 192 w' A' n' ((sch [] [xs] (pubB xs) pubs).1.flatMap Sp.cells)∧(sch [] [xs] (pubB xs) pubs).1.length=n'∧Below w.heap.size w w':=by
 obtain⟨R,hR⟩:=ex9 (sch [] [xs] (pubB xs) pubs);rw[←hR];have HRR:Hid (sch [] [xs] (pubB xs) pubs=R):=hR.symm;have HX:=qh hx;have HXL:=qh hx.len;have HPB:=qh hp;have H32:=qh h32;have HML:Hid (pubs.length=m):=by obtain⟨_,_,h,_⟩:=hp;exact h
 have HC:=qh hc;have HAL:=qh (hx.blk_lt om);have m1:¬(m:Int)=0:=om;have m5:¬(m:Int)>5:=om;have HPUB:Hid (∀W,Rd W A 32 (u8s xs)→Calls Tryz.prog 92 #[.slice A 32 c] W fun e w'=>e=.returned (.tuple #[.agg (u8s (pubB xs)).toArray,.int .i64 0])∧Below W.heap.size W w'):=fun W h=>zlh A c xs W h
 have HCP:Hid (∀W,Rd W A 32 (u8s xs)→Calls Tryz.prog 12 #[.slice A 32 c] W fun e w'=>∃A' c',e=.returned (.slice A' 32 c')∧32≤c'∧w'.ownsRow W.heap.size 5 1 (.slice A' 32 c') 32 (u8s xs)∧Below W.heap.size W w'):=fun W h=>zbs A 32 c xs W h om
 have HGD:Hid (Good (pubB xs)):=zm3 hx.len;have HNL:Hid ((u8s (pubB xs)).length=32):=by show _=_;rw[zaa,HGD.out.len]
 clear hx hp h32 hR hc
 go_enter Tryz.func57, Tryz.ntmps57
 go_wp2
 go_loop [6] (fun q=>∃k:Nat,k≤m∧q=.int .i64 k) (fun q=>m-(intOf q).toNat)
 case atStart=>exact⟨0,Nat.zero_le _,rfl⟩
 case round =>
  obtain⟨k,hkm,rfl⟩:=hrel
  by_cases hlt:k<m
  · have hlt2:(k:Int)<(m:Int):=om
    obtain⟨b,off,A1,n1,c1,l,rfl,hb,hkl,hc,hn1,hr1⟩:=HPB.out.at_ hlt;have hl:=hr1.len;rw[H32.out l (mg9 hkl.out)]at hl;subst hl;clear hr1 hkl;go_wp2
    go_round
    case rel=>exact⟨k+1,by omega,by go_num⟩
    case measure=>simp[intOf];omega
  · obtain rfl:k=m:=om
    have hlt2:¬(k:Int)<(k:Int):=om
    go_wp2_with (first
     | (go_at_call 92;(refine(HPUB.out _ (by exact HX.out)).mono ?_);rintro e w1 ⟨rfl,hB1⟩;have HE1:=qh hB1;clear hB1)
     | (refine zab rfl 23 (.tmp 7) (.tmp 45) rfl w1.heap.size (u8s (pubB xs)) rr rr 23 o32 (by exact Blk.new' rfl rfl) (by rw[HNL.out];exact hd24) (zac _) (by rw[HNL.out];rfl) ?_;intro w2 hb2 ho2;have HE2:=qh (ho2.below (HE1.out.alloc HE1.out.size _) HE1.out.size (Nat.le_trans HE1.out.size sy));have HC2:=qh hb2;clear hb2 ho2)
     | (go_at_call 12;(refine(HCP.out _ (by exact HX.out.below HE2.out)).mono ?_);rintro e w3 ⟨A3,c3,rfl,hc3,hown3,hB3⟩;have HE3:=qtr HE2 hB3;have HC3:=qbl HC2 hB3;have HO3:=qh hown3;have HC3':=qh hc3;have HL3:=qh hB3.size;clear hB3 hown3 hc3))
    have HG2:=qh HE1.out.size
    have HT4:Hid (Two (w1.heap.size+1) w1.heap.size 27 (w3.alloc (.cells #[.slice A3 32 c3] 22)) (.slice none 0 0) (.slice (some ⟨w3.heap.size,0,none⟩) 1 1) 0 1 ([].flatMap Sp.cells) [xs]):=by
     refine⟨[.slice A3 32 c3],World.ownsRow_nil _ _ _ _,zbi (Blk.new w3 22 [.slice A3 32 c3]) (by have:=HC3.out.lt;omega) 1 1 1 lr rfl om,rfl,fun b hb=>(by cases hb),fun i v hv=>?_⟩
     have hi:i=0:=by
      have:=(gi9.1 hv).1
      simpa using this
     subst hi;simp only[List.getElem?_cons_zero,Option.some.injEq]at hv;subst hv;refine⟨xs,A3,c3,rfl,HC3'.out,rfl,(Rd.of_own HO3.out).alloc _,fun ad e=>?_⟩;have h1:=HO3.out.lt ad.block (by rw[e];rfl);have h2:=HC2.out.lt;refine⟨by simp;omega,by omega,fun e2=>(by cases e2),fun e2=>?_⟩;simp only[Value.ownBlock]at e2
     injection e2 with e2
     omega
    have HC4:Hid (Blk (w3.alloc (.cells #[.slice A3 32 c3] 22)) w1.heap.size 23 (u8s (pubB xs))):=HC3.out.alloc _;have HE4:Hid (Below w.heap.size w (w3.alloc (.cells #[.slice A3 32 c3] 22))):=HE3.out.alloc HE3.out.size _;have HSC0:Hid (∀s∈[xs],s.length=32):=by intro s hs;simp at hs;rw[hs];exact HXL.out
    clear HE1 HE2 HC2 HO3 HE3 HC3 HPUB HCP HL3
    go_loopg [10,9,11] k (fun kk q10 q11 q wr=>∃(j:Nat) (acc:List Sp) (sc:List (List UInt8)) (al:List UInt8) (A10 A11:Option Addr) (c10 c11:Nat),j≤k∧kk=k-j∧q=.int .i64 j∧q10=.slice A10 j c10∧q11=.slice A11 (j+1) c11∧j≤c10∧Hid (sch acc sc al (pubs.drop j)=R)∧Hid (acc.length=j)∧Hid (Good al)∧Hid (∀s∈sc,s.length=32)∧Hid (Two (w1.heap.size+1) w1.heap.size 27 wr (.slice A10 j c10) (.slice A11 (j+1) c11) j (j+1) (acc.flatMap Sp.cells) sc)∧Hid (Blk wr w1.heap.size 23 (u8s al))∧Hid (Below w.heap.size w wr))
    case atStart=>exact⟨0,[],[xs],pubB xs,_,_,_,_,Nat.zero_le _,rfl,rfl,rfl,rfl,Nat.zero_le _,by rw[List.drop_zero];exact HRR,rfl,HGD,HSC0,HT4,HC4,HE4⟩
    case round =>
     clear HC4 HE4 HT4 HSC0 HGD HNL HRR;obtain⟨j,acc,sc,al,A10,A11,c10,c11,hjk,hgk,rfl,rfl,rfl,hj10,HV,HAC,HGA,HSC,HT,HC5,HE5⟩:=hrel;have HGK:=qh hgk;clear hgk
     by_cases hjk2:j<k
     · skip
       have hlt4:(j:Int)<(k:Int):=om;obtain⟨b,off,A1,n1,c1,l,rfl,hb,hkl,hc,hn1,hr1⟩:=(HPB.out.below HE5.out).at_ hjk2;have hl:=hr1.len;rw[H32.out l (mg9 hkl.out)]at hl;subst hl;have HR1:=qh hr1;have HO11:Hid (∀b,(Value.slice A11 (j+1) c11).ownBlock=some b→b<wr.heap.size):=fun b hb=>by obtain⟨us,hu⟩:=HT.out.own11;exact(hu.lt b hb).2
       have hdr:pubs.drop j=l :: pubs.drop (j+1):=by
        obtain⟨hj,he⟩:=gi9.1 hkl.out;rw[List.drop_eq_getElem_cons hj,he]
       have hv:=HV.out;rw[hdr,sch]at hv;have hcl:=zfs sc (nrm l) (zd7 l);obtain⟨V,hV⟩:=ex9 (chV (nrm l) sc)
       have HCH:Hid (∀W,Rd W A1 32 (u8s l)→RdB W A11 (j+1) sc→Calls Tryz.prog 93 #[.slice A1 32 c1,.slice A11 (j+1) c11] W fun e w'=>e=.returned (.tuple #[.agg (u8s V.1).toArray,.int .i64 (V.2:Int)])∧Below W.heap.size W w'):=fun W h1 h2=>by
        rw[hV];exact zom A1 A11 c1 (j+1) c11 l sc W h1 h2 HSC.out om
       rw[←hV]at hv hcl;have HVL:Hid ((u8s V.1).length=32):=by show _=_;rw[zaa,hcl]
       have HVV:=qh hv;have HVC:=qh hcl;have HAL5:Hid ((u8s al).length=32):=by show _=_;rw[zaa,HGA.out.len]
       clear hr1 hkl hdr hv hcl hV HV
       by_cases he:V.2=0
       · have hv:=HVV.out
         rw[if_pos he]at hv;have hei:(V.2:Int)=0:=by rw[he];rfl
         generalize (V.2:Int)=VE at *;subst hei;have hok:=zmq HGA.out.len HVC.out;have HKO:Hid (∀W A,Rd W A 32 (u8s V.1)→Calls Tryz.prog 94 #[.slice A 32 32] W fun e w'=>e=.returned (.tuple #[.agg (u8s (kys V.1)).toArray,.int .i64 0])∧Below W.heap.size W w'):=fun W A h=>zli A 32 V.1 W h
         have HKL:Hid ((u8s (kys V.1)).length=128):=by show _=_;rw[zaa,zhi]
         have HK1:Hid (∀v∈u8s (kys V.1),v.oneCell'=true):=zac _
         have HBD:Hid (∀W,(Instr.build 27 [(0,(.agg (u8s (kys V.1)).toArray:Value)),(1,.agg (u8s al).toArray),(2,.agg (u8s V.1).toArray)].toArray).run Tryz.prog W=.ok (.agg (stp al V.1).cells.toArray) W):=fun W=>by
          have:=zxt (stp al V.1) hok W
          rwa [zmr]at this
         have HNC:Hid (acc.flatMap Sp.cells++(stp al V.1).cells=(acc++[stp al V.1]).flatMap Sp.cells):=by show _=_;simp
         have HSL:Hid ((stp al V.1).cells.length=192):=Sp.cells_len hok;have HS1:Hid (∀v∈(stp al V.1).cells,v.oneCell'=true):=Sp.cells_one _;have HI2:Hid ((Tryz.prog.info? 27).map (fun i=>((i.zero.map (fun z=>z.cells.size)),i.size))=some (some (stp al V.1).cells.length,(stp al V.1).cells.length)):=by rw[HSL.out];exact z1sr
         have HNX:Hid (∀W,Calls Tryz.prog 48 #[.agg (stp al V.1).cells.toArray] W fun e w'=>e=.returned (.tuple #[.agg (u8s (mB (stp al V.1).blind al)).toArray,.int .i64 (mE (stp al V.1).blind al:Int)])∧Below W.heap.size W w'):=fun W=>zqf (stp al V.1) hok W
         have HGN:Hid (Good (mB (stp al V.1).blind al)):=HGA.out.mB hok.2.2.2.1;have HBL:Hid ((stp al V.1).blind.length=32):=hok.2.2.2.1
         have HKB:Hid (∀W G,Blk W G 25 (u8s (kys V.1))→Rd W (some ⟨G,96,none⟩) 32 (u8s (stp al V.1).blind)):=fun W G hb=>by
          have h5:=hb.rd 96 32 (by rw[zaa,zhi];omega)
          have h6:((kys V.1).drop 96).take 32=(stp al V.1).blind:=by
           rw[znl,←as9,←as9,List.drop_left' (by simp[Wd.derive_len])];exact tk (by rw[Wd.derive_len];exact lr)
          rwa [zbd,zaz,h6]at h5
         have hv':sch (acc++[stp al V.1]) (sc++[(stp al V.1).blind]) (mB (stp al V.1).blind al) (pubs.drop (j+1))=R:=hv;have HVN:=qh hv';clear hv hv' he HVV hok;generalize (stp al V.1).blind=BL at *;obtain⟨ST,hST⟩:=ex9 (stp al V.1);rw[←hST]at HNC HSL HS1 HI2 HNX HBD HVN;obtain⟨CS,hCS⟩:=ex9 (ST.cells);rw[←hCS]at HNC HSL HS1 HI2 HNX HBD;generalize mB BL al=NA at *;generalize (mE BL al:Int)=NE at *;generalize u8s (kys V.1)=KK at *;have HBLL:Hid ((u8s BL).length=32):=by show _=_;rw[zaa,HBL.out]
         have HNAL:Hid ((u8s NA).length=32):=by show _=_;rw[zaa,HGN.out.len]
         have HAC2:Hid ((acc++[ST]).length=j+1):=by show _=_;rw[la9,HAC.out];rfl
         have HSC2:Hid (∀s∈sc++[BL],s.length=32):=by
          intro s hs
          rcases List.mem_append.1 hs with h|h
          · exact HSC.out s h
          · simp at h;rw[h];exact HBL.out
         clear hST hCS
         go_upto_region 20 with (first
         | (go_at_call 93;(refine(HCH.out _ (by exact HR1.out) (by exact HT.out.rdB)).mono ?_);rintro e w6 ⟨rfl,hB6⟩;have HE6:=qtr HE5 hB6;have HT6:=qh (HT.out.below hB6);have HC6:=qbl HC5 hB6;have HS6:=qh hB6.size;clear hB6)
         | (refine zab rfl 23 (.tmp 12) (.tmp 63) rfl w6.heap.size (u8s V.1) rr rr 23 o32 (by exact Blk.new' rfl rfl) (by rw[HVL.out];exact hd24) (zac _) (by rw[HVL.out];rfl) ?_;intro w7 hb7 ho7;have hB7:Below w6.heap.size w6 w7:=ho7.below ((Below.refl _ _).alloc lr _) lr sy;have HE7:=qtr HE6 hB7;have HT7:=qh (HT6.out.below hB7);have HC7:=qbl HC6 hB7;have HS7:=qh (Nat.le_trans HS6.out hB7.size);have HV7:=qh hb7;have HRV7:Hid (Rd w7 (some ⟨w6.heap.size,0,none⟩) 32 (u8s V.1)):=by have h5:=hb7.rd 0 32 (by have:=HVL.out;omega);rwa [List.drop_zero,tk (by have:=HVL.out;omega)]at h5
            clear hb7 ho7 hB7)
         | (go_at_call 94;(refine(HKO.out _ _ (by exact HRV7.out)).mono ?_);rintro e w8 ⟨rfl,hB8⟩;have HE8:=qtr HE7 hB8;have HT8:=qh (HT7.out.below hB8);have HC8:=qbl HC7 hB8;have HV8:=qbl HV7 hB8;have HS8:=qh (Nat.le_trans HS7.out hB8.size);clear hB8)
         | (refine zab rfl 25 (.tmp 14) (.tmp 71) rfl w8.heap.size KK rr rr 25 (u8s (List.replicate 128 0)) (by exact Blk.new' rfl zc67) (by rw[HKL.out];exact hd67) HK1.out (by rw[HKL.out,zaa,lp9]) ?_;intro w9 hb9 ho9;have hB9:Below w8.heap.size w8 w9:=ho9.below ((Below.refl _ _).alloc lr _) lr sy;have HE9:=qtr HE8 hB9;have HT9:=qh (HT8.out.below hB9);have HC9:=qbl HC8 hB9;have HS9:=qh (Nat.le_trans HS8.out hB9.size);have HK9:=qh hb9;have l1:(ldAt 25 (.pointer (some ⟨w8.heap.size,0,none⟩))).run Tryz.prog w9=.ok (.agg KK.toArray) w9:=zal hb9 _ 0 KK (by rw[List.drop_zero,tk lr]) _ Tryz.underlying25 rfl (by rw[HKL.out];exact hd67);have l2:=zep HC9.out HAL5.out;have l3:=zep (HV8.out.below hB9 HV8.out.lt) HVL.out;clear hb9 ho9 hB9)
         | (refine zai rfl 27 [(0,.tmp 73),(1,.tmp 74),(2,.tmp 75)] rfl _ rr (.agg CS.toArray) (HBD.out _) ?_)
         | (refine zab rfl 27 (.tmp 16) (.tmp 76) rfl w9.heap.size CS rr rr 27 (u8s (List.replicate 192 0)) (by exact Blk.new' rfl zcSrz) (by rw[HSL.out];exact hd72) HS1.out (by rw[HSL.out];rfl) ?_;intro w10 hb10 ho10;have hB10:Below w9.heap.size w9 w10:=ho10.below ((Below.refl _ _).alloc lr _) lr sy;have HE10:=qtr HE9 hB10;have HT10:=qh (HT9.out.below hB10);have HC10:=qbl HC9 hB10;have HK10:=qbl HK9 hB10;have HST10:=qh hb10;have l4:=zu6 hb10 HSL.out;clear hb10 ho10 hB10 l1 l2 l3)
         | (refine zb6 rfl 124 27 (.tmp 78) rfl CS rr Tryz.underlying124 HI2.out (by rw[HSL.out];omega) (by rw[HSL.out];omega) ?_)
         | (at_builtin;refine zah rfl (.tmp 77) (.tmp 79) 124 rfl (w1.heap.size+1) 27 192 192 Tryz.underlying124 eSrz (.slice A10 j c10) j (acc.flatMap Sp.cells) rr (by exact zau HT10.out.own10 ((Below.refl _ _).alloc lr _)) (some ⟨w10.heap.size,0,none⟩) 1 1 CS rr (by exact RdS.new w10 _ CS 192 HSL.out) HS1.out om om (by have:=HC10.out.lt;simp;omega) ?_;intro A12 c12 w12 hown12 hc12 hg12 hat12;have ho10:=HT10.out.own10;have hlt10:=HT.out.own10;have HE12:=qh ((HE10.out.alloc HE10.out.size _).grown hg12 (Nat.le_trans HE10.out.size sy) (fun k hk=>by have h1:=(ho10.lt k hk).1;have h2:=HG2.out;omega));rw[HNC.out]at hown12;have HT12:=qh ((HT10.out.below ((Below.refl _ _).alloc lr _)).app10 hown12 hg12 (by simpa using hat12));have HC12:=qh ((HC10.out.alloc _).grown hg12 (fun e=>by have h1:=(ho10.lt _ e.symm).1;omega));have HK12:=qh ((HK10.out.alloc _).grown hg12 (fun e=>by have h1:=(hlt10.lt _ e.symm).2;have h2:=HS8.out;omega));have HST12:=qh ((HST10.out.alloc _).grown hg12 (fun e=>by have h1:=(hlt10.lt _ e.symm).2;have h2:=HS9.out;omega));have HC12':=qh hc12;clear hown12 hc12 hg12 hat12 ho10 hlt10 l4))
         clear HE6 HT6 HC6 HE7 HT7 HC7 HV7 HRV7 HE8 HT8 HC8 HV8 HE9 HT9 HC9 HK9 HE10 HT10 HC10 HK10 HST10 HT HC5 HE5
         go_wp2_with (first
         | (go_at_call 12;(refine(zbs (some ⟨w8.heap.size,96,none⟩) 32 32 BL _ (by exact HKB.out _ _ HK12.out) om).mono ?_);rintro e w13 ⟨A13,c13,rfl,hc13,hown13,hB13⟩;have HE13:=qtr HE12 hB13;have HT13:=qh (HT12.out.below hB13);have HC13:=qbl HC12 hB13;have HST13:=qbl HST12 hB13;have HR13:=qh (Rd.of_own hown13);have HCC13:=qh hc13;have HAP:Hid (∀ad:Addr,A13=some ad→ad.block≠w1.heap.size∧(Value.slice A12 (j+1) c12).ownBlock≠some ad.block∧(Value.slice A11 (j+1) c11).ownBlock≠some ad.block):=fun ad e=>HT12.out.fresh2 HC12.out.lt ((hown13.lt ad.block (by rw[e];rfl)).1)
            obtain⟨vs,htv⟩:=HT13.out.below ((Below.refl _ w13).alloc lr (.cells #[.slice A13 32 c13] 22));have HTV:=qh htv
            clear hB13 hown13 hc13 htv)
         | (at_builtin;refine zah rfl (.tmp 81) (.tmp 85) 87 rfl (w1.heap.size+1) 22 1 24 Tryz.underlying87 eSl (.slice A11 (j+1) c11) (j+1) vs rr (by exact HTV.out.2.1) (some ⟨w13.heap.size,0,none⟩) 1 1 [.slice A13 32 c13] rr (by exact RdS.new w13 _ [.slice A13 32 c13] 1 rfl) (by intro v hv;simp at hv;rw[hv];rfl) om om (by have:=HC13.out.lt;simp;omega) ?_;intro A17 c17 w17 hown17 hc17 hg17 hat17;have HE17:=qh ((HE13.out.alloc HE13.out.size _).grown hg17 (Nat.le_trans HE13.out.size sy) (fun k hk=>by have h1:=(HTV.out.2.1.lt k hk).1;have h2:=HG2.out;omega));have HC17:=qh ((HC13.out.alloc _).grown hg17 (fun e=>by have h1:=(HTV.out.2.1.lt _ e.symm).1;omega));have HST17:=qh ((HST13.out.alloc _).grown hg17 (fun e=>by have h1:=(HO11.out _ e.symm);have h2:=HS9.out;omega));have HT17:Hid (Two (w1.heap.size+1) w1.heap.size 27 w17 (.slice A12 (j+1) c12) (.slice A17 (j+1+1) c17) (j+1) (j+1+1) ((acc++[ST]).flatMap Sp.cells) (sc++[BL])):=Two.app11 HTV.out hown17 hg17 (by simpa using hat17) HCC13.out (HR13.out.alloc _) HAP.out;have l5:=zu6 HST17.out HSL.out;clear hown17 hc17 hg17 hat17)
         | (go_at_call 48;(refine(HNX.out _).mono ?_);rintro e w18 ⟨rfl,hB18⟩;have HE18:=qtr HE17 hB18;have HT18:=qh (HT17.out.below hB18);have HC18:=qbl HC17 hB18;obtain⟨w19,hst8,ho19,hb19⟩:=st32 HC18.out HAL5.out HNAL.out (zac _);have HE19:=qh (ho19.below HE18.out HG2.out HE18.out.size);have HT19:=qh (HT18.out.only ho19 (Nat.lt_succ_self _));have HC19:=qh hb19;clear hb19 ho19 hB18 l5))
         go_roundg (k-(j+1))
         case measure=>have:=HGK.out;omega
         case rel=>exact⟨j+1,acc++[ST],sc++[BL],NA,A12,A17,c12,c17,by omega,rfl,by go_num,rfl,rfl,HC12'.out,HVN,HAC2,HGN,HSC2,HT19,HC19,HE19⟩
       · have hei:¬(V.2:Int)=0:=om
         have hv:=HVV.out;rw[if_neg he]at hv;have HRL:Hid (R.1=[]):=by show _=_;rw[←hv]
         have HRE:Hid ((R.2:Int)=(V.2:Int)):=by show _=_;rw[←hv]
         clear he hv HVV
         go_wp2_with (first
          | (go_at_call 93;(refine(HCH.out _ (by exact HR1.out) (by exact HT.out.rdB)).mono ?_);rintro e w6 ⟨rfl,hB6⟩;have HE6:=qtr HE5 hB6;clear hB6)
          | (refine zab rfl 23 (.tmp 12) (.tmp 63) rfl w6.heap.size (u8s V.1) rr rr 23 o32 (by exact Blk.new' rfl rfl) (by rw[HVL.out];exact hd24) (zac _) (by rw[HVL.out];rfl) ?_;intro w7 hb7 ho7;have HE7:=qh (ho7.below (HE6.out.alloc HE6.out.size _) HE6.out.size (Nat.le_trans HE6.out.size sy))))
         go_ret2;exact⟨none,0,0,by rw[HRE.out];rfl,lr,by rw[HRL.out];exact⟨rfl,fun h=>absurd h om⟩,by rw[HRL.out];rfl,HE7.out⟩
     · obtain rfl:j=k:=om
       have hlt4:¬(j:Int)<(j:Int):=om;have hv:=HV.out;rw[List.drop_eq_nil_of_le (by rw[HML.out];exact lr),sch]at hv;have HRV:Hid (R.1=acc∧R.2=0):=by show _∧_;rw[←hv];exact⟨rfl,rfl⟩
       have HOW:=qh HT.out.own10;clear hv HV;go_wp2;go_ret2;exact⟨A10,j,c10,by rw[HRV.out.2];rfl,hj10,by rw[HRV.out.1];exact RdS.ofOwn2 HOW.out,by rw[HRV.out.1];exact HAC.out,HE5.out⟩
end
end Go.Proofs.YtpgpaenloaphaaaGreat
