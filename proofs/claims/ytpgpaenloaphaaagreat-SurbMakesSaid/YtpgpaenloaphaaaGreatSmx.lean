/- SurbMakes: a reply block and what is kept of it are the document's, byte for byte: for all random bytes and every list of hops the law returns true. -/
import Derived.Test.YtpgpaenloaphaaaGreatSmx51
set_option maxRecDepth 100000
set_option maxHeartbeats 0
namespace Go.Proofs.YtpgpaenloaphaaaGreat
open Go.RowKit
section
attribute [local go_sem ↓] zr0 zvg
theorem zo1(A:Option Addr)(n c:Nat)(hs:List Ho)(w:World)(h:RdS 68 w A n (hs.flatMap Ho.cells))(hok:∀s∈hs,s.ok)(hl:hs.length=n)(hn:n*104≤140737488355328):
 Calls Tryz.prog 25 #[.slice A n c] w fun e w'=>∃A' c',e=.returned (.slice A' n c')∧n≤c'∧w'.ownsRow w.heap.size 85 68 (.slice A' n c') n (hs.flatMap Ho.cells)∧Below w.heap.size w w':=by
 have HR:=qh h;have HK:=qh hok;have HL:=qh hl;have HO0:Hid (w.ownsRow w.heap.size 85 68 (.slice none 0 0) 0 ((hs.take 0).flatMap Ho.cells)):=World.ownsRow_nil _ _ _ _;clear h hok hl
 go_enter Tryz.func25, Tryz.ntmps25
 go_wp2
 go_loopg [3,8] n (fun kk v q wr=>∃k:Nat,k≤n∧kk=n-k∧q=.int .i64 k∧(∃A' c',v=.slice A' k c'∧k≤c'∧wr.ownsRow w.heap.size 85 68 (.slice A' k c') k ((hs.take k).flatMap Ho.cells))∧Below w.heap.size w wr)
 case atStart=>exact⟨0,by omega,rfl,rfl,⟨none,0,rfl,by omega,HO0.out⟩,Below.refl _ _⟩
 case round =>
  clear HO0;obtain⟨k,hk,hgk,rfl,⟨A',c',rfl,hc',hown⟩,hB⟩:=hrel;have HGK:=qh hgk;clear hgk
  by_cases hlt:k<n
  · have hlt2:(k:Int)<(n:Int):=om
    obtain⟨o,ho⟩:∃o,hs[k]? = some o:=⟨_,ge9 (by rw[HL.out];omega)⟩;have hoo:=HK.out o (mg9 ho);obtain⟨b,off,rfl,hb2,hrg⟩:=zbk (HR.out.bel hB lr) HK.out ho om;have HCL:=qh (Ho.cells_len hoo);have hld:(ldAt 121 (.pointer (some ⟨b,off+k*68,none⟩))).run Tryz.prog wr=.ok (.agg o.cells.toArray) wr:=run_loadAt_mid wr b (off+k*68) 121 o.cells _ hrg Tryz.underlying121 rfl (by rw[HCL.out];exact hd121);have HNX:Hid ((hs.take k).flatMap Ho.cells++o.cells=(hs.take (k+1)).flatMap Ho.cells):=by show _=_;rw[List.take_add_one,ho];simp
    have HC1:=qh (Ho.cells_one o);have HB1:=qh (fun W=>bld_dn o.node (Ho.node_len hoo) W);have HB2:Hid (∀W,(Instr.build 85 [(0,(.agg o.node.toArray:Value)),(1,.int .i64 o.dl),(2,.int .i64 o.fl)].toArray).run Tryz.prog W=.ok (.agg o.cells.toArray) W):=fun W=>bld_dh o.node o.dl o.fl (Ho.node_len hoo) W
    have HD1:=qh (Ho.at_dl hoo);have HD2:=qh (Ho.at_fl hoo);have HLN:Hid (∀W G,Blk W G 121 o.cells→(ldAt 81 (.pointer (some ⟨G,0,none⟩))).run Tryz.prog W=.ok (.agg o.node.toArray) W):=fun W G hb=>zal hb _ 0 o.node (by rw[Ho.node_len hoo];exact Ho.at_node hoo) _ Tryz.underlying81 rfl (by rw[Ho.node_len hoo];exact hd81)
    generalize o.cells=C at *;generalize o.node=N at *;generalize o.dl=D at *;generalize o.fl=F at *;have HI2:Hid ((Tryz.prog.info? 85).map (fun i=>((i.zero.map (fun z=>z.cells.size)),i.size))=some (some C.length,C.length)):=by rw[HCL.out];exact z1ho
    have HOW:=qh hown;have HB:=qh hB;have hbs:=hB.size;clear ho hoo hrg hown hB
    go_wp2_with (first
     | (refine zab rfl 121 (.tmp 5) (.tmp 11) rfl wr.heap.size C rr rr 121 zHo.cells (by exact Blk.new' rfl zc121) (by rw[HCL.out];exact hd121) HC1.out (by rw[HCL.out,Ho.cells_len zj8]) ?_;intro w1 hb1 ho1;have HE1:=qh (ho1.below (HB.out.alloc hbs _) hbs (Nat.le_trans hbs sy));have HO1:=qh (zc3 (HOW.out.alloc _) ho1 (fun k hk=>by have h9:=(HOW.out.lt k hk).2;omega));have l1:=HLN.out _ _ hb1;have c1:w1.cell? ⟨wr.heap.size,66,none⟩=some (.int .i64 D):=by rw[hb1.cell];exact HD1.out
        have c2:w1.cell? ⟨wr.heap.size,67,none⟩=some (.int .i64 F):=by rw[hb1.cell];exact HD2.out
        clear hb1 ho1)
     | (refine zai rfl 83 [(0,.tmp 14)] rfl _ rr (.agg N.toArray) (HB1.out _) ?_)
     | (refine zai rfl 85 [(0,.tmp 15),(1,.tmp 17),(2,.tmp 19)] rfl _ rr (.agg C.toArray) (HB2.out _) ?_)
     | (refine zb6 rfl 65 85 (.tmp 20) rfl C rr Tryz.underlying65 HI2.out (by rw[HCL.out];omega) (by rw[HCL.out];omega) ?_)
     | (at_builtin;refine zah rfl (.tmp 12) (.tmp 21) 65 rfl w.heap.size 85 68 104 Tryz.underlying65 eHop (.slice A' k c') k _ rr (by exact HO1.out.alloc _) (some ⟨w1.heap.size,0,none⟩) 1 1 C rr (by exact RdS.new w1 _ C 68 HCL.out) HC1.out om om (by exact Nat.le_trans HE1.out.size sy) ?_;intro A4 c4 w4 hown4 hc4 hg4 hat4;have HE4:=qh ((HE1.out.alloc HE1.out.size _).grown hg4 (Nat.le_trans HE1.out.size sy) (fun k hk=>(HOW.out.lt k hk).1));rw[HNX.out]at hown4;have HO4:=qh hown4;clear hown4 hg4 hat4))
    go_roundg (n-(k+1))
    case measure=>have:=HGK.out;omega
    case rel=>exact⟨k+1,by omega,rfl,by go_num,⟨A4,c4,rfl,hc4,HO4.out⟩,HE4.out⟩
  · obtain rfl:k=n:=om
    have hlt2:¬(k:Int)<(k:Int):=om;rw[tk (by rw[HL.out];exact lr)]at hown;have HOW:=qh hown;clear hown;go_wp2;go_ret;exact⟨A',c',rfl,hc',HOW.out,hB⟩
theorem zr5(A:Option Addr)(n c:Nat)(hs:List Ho)(w:World)(h:RdS 68 w A n (hs.flatMap Ho.cells))(hok:∀s∈hs,s.ok)(hl:hs.length=n)(hn:n*104≤140737488355328):
 Calls Tryz.prog 25 #[.slice A n c] w fun e w'=>∃A' c',e=.returned (.slice A' n c')∧RdS 68 w' A' n (hs.flatMap Ho.cells)∧Below w.heap.size w w':=by
 refine(zo1 A n c hs w h hok hl hn).mono ?_;rintro e w' ⟨A',c',rfl,_,ho,hB⟩;exact⟨A',c',rfl,RdS.ofOwn2 ho,hB⟩
theorem zsf(A:Option Addr)(n c:Nat)(l:List UInt8)(w:World)(h:Rd w A n (u8s l))(hn:n≤140737488355328):
 Calls Tryz.prog 12 #[.slice A n c] w fun e w'=>∃A' c',e=.returned (.slice A' n c')∧n≤c'∧Rd w' A' n (u8s l)∧Below w.heap.size w w':=by
 refine(zbs A n c l w h hn).mono ?_;rintro e w' ⟨A',c',rfl,hc',ho,hB⟩;exact⟨A',c',rfl,hc',Rd.of_own ho,hB⟩
end
theorem eq37(w:World):(eqAt 59 (.agg z37.toArray) (.agg Tryz.zeroCells59)).run Tryz.prog w=.ok (.bool true) w:=by rw[←zc37];kernel_rfl
theorem eqq_37(x y:Value):binOp .eql 59 x y=eqAt 59 x y:=rfl
end Go.Proofs.YtpgpaenloaphaaaGreat
namespace Go.Proofs.YtpgpaenloaphaaaGreat.surbMakes
open Go.RowKit
section
attribute [local go_sem ↓] zio zh3 znj zmp eqq_37
theorem walk0(A H:Option Addr)(na ca n c:Nat)(xs:List UInt8)(hs:List Ho)(w:World)(E:Nat)(KC:List Value)(SO:Option Addr→Nat→List Value)(PR:World→Option Addr→Prop)(QR:World→Option Addr→Nat→Nat→Prop)
 (hx:Rd w A na (u8s xs)) (hna:na≤140737488355328) (_hh:RdS 68 w H n (hs.flatMap Ho.cells))
 (hKL:KC.length=321) (hK1:∀v∈KC,v.oneCell'=true) (hSL:∀B d,(SO B d).length=49) (hS1:∀B d,∀v∈SO B d,v.oneCell'=true)
 (hPR:∀W W' B,PR W B→Below W.heap.size W W'→PR W' B) (hQR:∀W W' B a b,QR W B a b→Below W.heap.size W W'→QR W' B a b)
 (hHO:∀W,Below w.heap.size w W→Calls Tryz.prog 25 #[.slice H n c] W fun e w'=>∃A' c',e=.returned (.slice A' n c')∧RdS 68 w' A' n (hs.flatMap Ho.cells)∧Below W.heap.size W w')
 (hMK:∀W A1 c1 H1 e1,Rd W A1 na (u8s xs)→na≤c1→RdS 68 W H1 n (hs.flatMap Ho.cells)→Calls Tryz.prog 24 #[.slice A1 na c1,.slice H1 n e1] W fun e w'=>∃B d,e=.returned (.tuple #[.agg KC.toArray,.agg (SO B d).toArray,.int .i64 (E:Int)])∧PR w' B∧Below W.heap.size W w')
 (hRM:∀W,Below w.heap.size w W→Calls Tryz.prog 26 #[.slice A na ca,.slice H n c] W fun e w'=>∃A' n' c' B d,e=.returned (.tuple #[.slice A' n' c',.agg (SO B d).toArray,.int .i64 (E:Int)])∧QR w' A' n' c'∧PR w' B∧Below W.heap.size W w')
 (hSM:∀W B d B' d',PR W B→PR W B'→Calls Tryz.prog 27 #[.agg (SO B d).toArray,.agg (SO B' d').toArray] W fun e w'=>e=.returned (.bool true)∧Below W.heap.size W w')
 (hEZ:E≠0→KC=z37)
 (hBY:E=0→∀W A' n' c',QR W A' n' c'→Calls Tryz.prog 28 #[.agg KC.toArray] W fun e w'=>∃A2 n2 c2,e=.returned (.slice A2 n2 c2)∧QR w' A2 n2 c2∧QR w' A' n' c'∧Below W.heap.size W w')
 (hEQ:E=0→∀W A1 n1 c1 A2 n2 c2,QR W A1 n1 c1→QR W A2 n2 c2→Calls Tryz.prog 13 #[.slice A1 n1 c1,.slice A2 n2 c2] W fun e w'=>e=.returned (.bool true)∧Below W.heap.size W w'):
 Calls Tryz.prog 5 #[.slice A na ca,.slice H n c] w fun e w'=>e=.returned (.bool true)∧Below w.heap.size w w':=by
 have HX:=qh hx;have HHO:=qh hHO;have HMK:=qh hMK;have HRM:=qh hRM;have HSM:=qh hSM;have HPR:=qh hPR;have HQR:=qh hQR;have HK1:=qh hK1;have HS1:=qh hS1;have HIB:Hid ((Tryz.prog.info? 59).map (·.size)=some KC.length):=by show _=_;rw[hKL];exact hd37
 have HIL:Hid (KC.length=z37.length):=by show _=_;rw[hKL,zc8]
 have HSI:Hid (∀B d,(Tryz.prog.info? 62).map (·.size)=some (SO B d).length):=fun B d=>by rw[hSL];exact hdSo
 have HSZ:Hid (∀B d,(SO B d).length=zSo.length):=fun B d=>by rw[hSL,zc7]
 have HEZ:=qh hEZ;have HBY:=qh hBY;have HEQ:=qh hEQ;clear hx _hh hKL hK1 hSL hS1 hPR hQR hHO hMK hRM hSM hEZ hBY hEQ
 go_enter Tryz.func5, Tryz.ntmps5
 go_upto_region 5 with (first
  | (go_at_call 23;refine(awake16 _).mono ?_;rintro e w1 ⟨rfl,hB1⟩;have HE1:=qh hB1;clear hB1)
  | (go_at_call 12;(refine(zsf A na ca xs _ (HX.out.below HE1.out) hna).mono ?_);rintro e w2 ⟨A2,c2,rfl,hc2,hr2,hB2⟩;have HE2:=qtr HE1 hB2;have HR2:=qh hr2;clear hB2 hr2)
  | (go_at_call 25;(refine(HHO.out _ (by exact HE2.out)).mono ?_);rintro e w3 ⟨A3,c3,rfl,hr3,hB3⟩;have HE3:=qtr HE2 hB3;have HR3:=qh (HR2.out.below hB3);have HT3:=qh hr3;clear hB3 hr3)
  | (go_at_call 24;(refine(HMK.out _ _ _ _ _ (by exact HR3.out) (by exact hc2) (by exact HT3.out)).mono ?_);rintro e w4 ⟨B4,d4,rfl,hp4,hB4⟩;have HE4:=qtr HE3 hB4;have HP4:=qh hp4;clear hB4 hp4)
  | (refine zab rfl 59 (.tmp 5) (.tmp 19) rfl w4.heap.size KC rr rr 59 z37 (by exact(Blk.new' rfl zc37).alloc _) HIB.out HK1.out HIL.out ?_;intro w5 hb5 ho5;have hD5:Below w4.heap.size w4 w5:=ho5.below (((Below.refl _ w4).alloc lr _).alloc sy _) lr (by simp;omega);have HK5:=qh hb5;have HZ5:Hid (Blk w5 (w4.heap.size+1) 62 zSo):=ho5.blk (Blk.new' sy rfl) om;have HD5:=qh hD5;clear hb5 ho5 hD5)
  | (refine zab rfl 62 (.tmp 6) (.tmp 20) rfl (w4.heap.size+1) (SO B4 d4) rr rr 62 zSo (by exact HZ5.out) (HSI.out B4 d4) (HS1.out B4 d4) (HSZ.out B4 d4) ?_;intro w6 hb6 ho6;have hD6:=ho6.below HD5.out om HD5.out.size;have HK6:=qh (ho6.blk HK5.out om);have HS6:=qh hb6;have HE6:=qtr HE4 hD6;have HP6:=qh (HPR.out _ _ _ HP4.out hD6);clear hb6 ho6 hD6)
  | (go_at_call 26;(refine(HRM.out _ (by exact HE6.out)).mono ?_);rintro e w7 ⟨A7,n7,c7,B7,d7,rfl,hq7,hp7,hB7⟩;have HE7:=qtr HE6 hB7;have HK7:=qbl HK6 hB7;have HS7:=qbl HS6 hB7;have HP7:=qh (HPR.out _ _ _ HP6.out hB7);have HP7':=qh hp7;have HQ7:=qh hq7;clear hB7 hp7 hq7)
  | (refine zab rfl 62 (.tmp 9) (.tmp 27) rfl w7.heap.size (SO B7 d7) rr rr 62 zSo (by exact Blk.new' rfl rfl) (HSI.out B7 d7) (HS1.out B7 d7) (HSZ.out B7 d7) ?_;intro w8 hb8 ho8;have hD8:Below w7.heap.size w7 w8:=ho8.below ((Below.refl _ w7).alloc lr _) lr sy;have HE8:=qtr HE7 hD8;have HK8:=qbl HK7 hD8;have HS8:=qbl HS7 hD8;have HT8:=qh hb8;have HP8:=qh (HPR.out _ _ _ HP7.out hD8);have HP8':=qh (HPR.out _ _ _ HP7'.out hD8);have HQ8:=qh (HQR.out _ _ _ _ _ HQ7.out hD8);clear hb8 ho8 hD8))
 have l1:=zal HS8.out 62 0 (SO B4 d4) (by rw[List.drop_zero,List.take_length]) _ Tryz.underlying62 rfl (HSI.out B4 d4);have l2:=zal HT8.out 62 0 (SO B7 d7) (by rw[List.drop_zero,List.take_length]) _ Tryz.underlying62 rfl (HSI.out B7 d7);clear HE1 HE2 HE3 HE4 HE6 HE7 HR2 HR3 HT3 HP4 HK5 HZ5 HD5 HK6 HS6 HP6 HK7 HS7 HP7 HP7' HQ7 HMK HRM HHO HX;have hee:((E:Int) != (E:Int))=false:=by simp
 go_upto_region 7 with (go_at_call 27;(refine(HSM.out _ _ _ _ _ (by exact HP8.out) (by exact HP8'.out)).mono ?_);rintro e w9 ⟨rfl,hB9⟩;have HE9:=qtr HE8 hB9;have HK9:=qbl HK8 hB9;have HQ9:=qh (HQR.out _ _ _ _ _ HQ8.out hB9);clear hB9)
 have l3:=zal HK9.out 59 0 KC (by rw[List.drop_zero,List.take_length]) _ Tryz.underlying59 rfl HIB.out;clear l1 l2 HS8 HT8 HP8 HP8' HQ8 HK8 HE8
 by_cases he:E=0
 · have hez:(E:Int)=0:=om
   have hBYE:=HBY.out he;have hEQE:=HEQ.out he;have HBYE:=qh hBYE;have HEQE:=qh hEQE;subst he;clear hBYE hEQE HBY HEQ HEZ hez
   go_wp2_with (first
    | (go_at_call 28;(refine(HBYE.out _ _ _ _ (by exact HQ9.out)).mono ?_);rintro e w10 ⟨A10,n10,c10,rfl,hq10,hq11,hB10⟩;have HE10:=qtr HE9 hB10;have HQ10:=qh hq10;have HQ11:=qh hq11;clear hB10 hq10 hq11)
    | (go_at_call 13;(refine(HEQE.out _ _ _ _ _ _ _ (by exact HQ10.out) (by exact HQ11.out)).mono ?_);rintro e w11 ⟨rfl,hB11⟩;have HE11:=qtr HE10 hB11;clear hB11))
   go_ret;exact⟨rfl,HE11.out⟩
 · have hez:¬(E:Int)=0:=om
   have hk:=HEZ.out he;subst hk;have hq:∀W,(eqAt 59 (.agg z37.toArray) (.agg z37.toArray)).run Tryz.prog W=.ok (.bool true) W:=fun W=>by have h5:=eq37 W;rwa [zc37]at h5
   go_wp2_with (refine zai rfl 59 [] rfl [] rr _ (zhq _) ?_)
   go_ret;exact⟨rfl,HE9.out⟩
end
theorem flat_u8s:∀l:List (List UInt8),u8s l.flatten=l.flatMap u8s
 | []=>rfl
 | a :: l=>by rw[List.flatten_cons,zae,flat_u8s l,List.flatMap_cons]
theorem znr:∀l:List (List UInt8),(∀x∈l,x.length=32)→(l.flatMap u8s).length=l.length*32
 | [],_=>rfl
 | a :: l,h=>by rw[List.flatMap_cons,la9,zaa,h a sy,znr l (fun x hx=>h x (by simp[hx])),List.length_cons];omega
theorem zpw{xs:List UInt8}{hs:List Ho}(h:scE (xs.take 32) hs=0):(smPays xs hs).length=hs.length∧∀x∈smPays xs hs,x.length=32:=by
 obtain⟨_,h7,h8⟩:=zib h;refine⟨by rw[smPays,List.length_map,h7],fun x hx=>?_⟩;obtain⟨s,hs9,rfl⟩:=List.mem_map.1 hx;exact(h8 s hs9).2.2.1
theorem smE_0{xs:List UInt8}{hs:List Ho}(h:smE xs hs=0):sm3 xs hs=0∧scE (xs.take 32) hs=0:=by
 unfold smE at h
 split at h
 · rename_i h2;exact absurd h h2
 · rename_i h2;exact⟨by simpa using h2,h⟩
theorem zvw{xs:List UInt8}{hs:List Ho}(hok:∀s∈hs,s.ok)(h:smE xs hs=0):(smL xs hs).length=328:=by
 obtain⟨h3,hsc⟩:=smE_0 h;obtain⟨hl80,hpe,hn1,hn5,_⟩:=sm3_0 h3;obtain⟨_,hs7,hs8⟩:=zib hsc;have hhl:(smH xs hs).length=288:=zfq (cs:=pathL (smLast xs) hs) (ss:=scL (xs.take 32) hs) (n:=hs.length) (ze7 (zda xs) hok hpe) hs8 (zcv _ _) hs7 hn5 _ lr;have hol:(smOwn xs).length=32:=by rw[smOwn,if_pos hl80,List.length_take,List.length_drop,hl80];rfl
 rw[smL,la9,la9,Sh.beBytes_len,hhl,hol]
theorem walk(A H:Option Addr)(na ca n c:Nat)(xs:List UInt8)(hs:List Ho)(w:World)(hx:Rd w A na (u8s xs))(hna:na≤140737488355328)(hh:RdS 68 w H n (hs.flatMap Ho.cells))(hok:∀s∈hs,s.ok)(hl:hs.length=n)(hn:n*104≤140737488351232):
 Calls Tryz.prog 5 #[.slice A na ca,.slice H n c] w fun e w'=>e=.returned (.bool true)∧Below w.heap.size w w':=by
 have hHO:∀W,Below w.heap.size w W→Calls Tryz.prog 25 #[.slice H n c] W fun e w'=>∃A' c',e=.returned (.slice A' n c')∧RdS 68 w' A' n (hs.flatMap Ho.cells)∧Below W.heap.size W w':=fun W hW=>zr5 H n c hs W (hh.bel hW lr) hok hl om
 have hRA:=fun W (hW:Below w.heap.size w W)=>zqh A H na ca n c xs hs W (hx.below hW) hna (hh.bel hW lr) hok hl om
 by_cases he:smE xs hs=0
 · obtain⟨h3,hsc⟩:=smE_0 he
   obtain⟨hl80,hpe,hn1,hn5,_⟩:=sm3_0 h3;have hm:(xs.drop 64).length=16:=by rw[List.length_drop,hl80]
   have ho:(smOwn xs).length=32:=by rw[smOwn,if_pos hl80,List.length_take,List.length_drop,hl80];rfl
   obtain⟨hpl,hpk⟩:=zpw hsc;have hL:=zvw hok he
   refine walk0 A H na ca n c xs hs w (smE xs hs) (blkCells (smL xs hs)) (fun B d=>soC (xs.drop 64) (smOwn xs) B n d) (fun W B=>RdS 32 W B n ((smPays xs hs).flatMap u8s)) (fun W B a b=>a=328∧328≤b∧Rd W B 328 (u8s (smL xs hs))) hx hna hh
     (zbh _ hL) (zcy _) (fun B d=>zd0 hm ho B n d) (fun B d=>zdz _ _ B n d) (fun W W' B h hb=>RdS.belo h hb) (fun W W' B a b h hb=>⟨h.1,h.2.1,h.2.2.below hb⟩) hHO ?_ ?_ ?_ (fun h=>absurd he h) ?_ ?_
   · intro W A1 c1 H1 e1 h1 h2 h4
     refine(zkg A1 H1 na c1 n e1 xs hs W h1 h2 h4 hok hl h3).mono ?_;rintro e w' ⟨h5,hB⟩
     rcases h5 with ⟨h6,_⟩|⟨_,g,rfl,_,hb⟩
     · exact absurd hsc h6
     · refine⟨some ⟨g,0,none⟩,n,by rw[he];rfl,?_,hB⟩
       rw[flat_u8s]at hb;exact⟨by rw[znr _ hpk,hpl,hl],fun _=>⟨g,0,rfl,hb.lt,fun j u hu=>by rw[Nat.zero_add];exact(hb.cell j).trans hu⟩⟩
   · intro W hW
     refine(hRA W hW).mono ?_;rintro e w' ⟨h5,hB⟩
     rcases h5 with ⟨h6,_⟩|⟨_,A',c',B,d,rfl,hc',hr,hp⟩
     · exact absurd he h6
     · exact⟨A',328,c',B,d,by rw[he];rfl,⟨rfl,hc',hr⟩,hp,hB⟩
   · intro W B d B' d' h1 h2
     exact zmx (xs.drop 64) (smOwn xs) B B' n d d' (smPays xs hs) W hm ho h1 h2 hpk (by rw[hpl,hl]) om
   · intro _ W A' n' c' hq
     refine(zic (smL xs hs) W hL).mono ?_;rintro e w' ⟨A2,c2,rfl,hc2,hown,hB⟩;exact⟨A2,328,c2,rfl,⟨rfl,hc2,Rd.of_own hown⟩,⟨hq.1,hq.2.1,hq.2.2.below hB⟩,hB⟩
   · rintro _ W A1 n1 c1 A2 n2 c2 ⟨rfl,_,h1⟩ ⟨rfl,_,h2⟩
     refine(zk4 A1 A2 328 328 c1 c2 _ _ W h1 h2 (by decide) (by decide)).mono ?_;rintro e w' ⟨rfl,q,rfl⟩;exact⟨by simp,Below.drewN' (Below.refl _ _) q⟩
 · refine walk0 A H na ca n c xs hs w (smE xs hs) z37 (fun _ _=>zSo) (fun _ _=>True) (fun _ _ _ _=>True) hx hna hh
     zc8 zk8 (fun _ _=>zc7) (fun _ _=>zdz _ _ _ _ _) (fun _ _ _ _ _=>trivial) (fun _ _ _ _ _ _ _=>trivial) hHO ?_ ?_ ?_ (fun _=>rfl) (fun h=>absurd h he) (fun h=>absurd h he)
   · intro W A1 c1 H1 e1 h1 h2 h4
     by_cases h3:sm3 xs hs=0
     · refine(zkg A1 H1 na c1 n e1 xs hs W h1 h2 h4 hok hl h3).mono ?_
       have hE:smE xs hs=scE (xs.take 32) hs:=by rw[smE,if_neg (by simp[h3])]
       rintro e w' ⟨h5,hB⟩
       rcases h5 with ⟨_,rfl⟩|⟨h6,_⟩
       · exact⟨none,0,by rw[hE],trivial,hB⟩
       · exact absurd (hE.trans h6) he
     · refine(zs3 A1 H1 na c1 n e1 xs hs W h1 h2 h4 hok hl om h3).mono ?_
       have hE:smE xs hs=sm3 xs hs:=by rw[smE,if_pos h3]
       rintro e w' ⟨rfl,hB⟩;exact⟨none,0,by rw[hE],trivial,hB⟩
   · intro W hW
     refine(hRA W hW).mono ?_;rintro e w' ⟨h5,hB⟩
     rcases h5 with ⟨_,rfl⟩|⟨h6,_⟩
     · exact⟨none,0,0,none,0,rfl,trivial,trivial,hB⟩
     · exact absurd h6 he
   · intro W B d B' d' _ _
     exact zmx (List.replicate 16 0) (List.replicate 32 0) none none 0 0 0 [] W sy sy ⟨rfl,fun h=>absurd h om⟩ ⟨rfl,fun h=>absurd h om⟩ (fun _ h=>by cases h) rfl om
theorem walkA{W:World}(x:Sl UInt8)(hx:Rd W x.A x.n (u8s x.l)∧x.n≤x.c∧x.c≤140737488351232)(s:Sl Ho)(hs:SlIn none 68 104 Ho.cells (fun _ h=>h.ok) W s):
 Calls Tryz.prog 5 #[x.val,s.val] W fun e w'=>e=.returned (.bool true)∧Below W.heap.size W w' :=
 walk x.A s.A x.n x.c s.n s.c x.l s.l W hx.1 om hs.rd hs.each hs.len (by have h1:=hs.cap;have h2:=hs.reach;unfold reachBytes at h2;omega)
section
open Go.ChangeShapes Go.WideShapes Go.ChangeAt Go.RowKit
set_option linter.unusedVariables false
theorem lifted(os:Os)(started:os.Started)(H:Type)(enc:TypeId × Value→H):
 ReturnsInHanded {} Tryz.checked os 5 .any (Rows.surbMakesSpec.pre6 enc Tryz.prog Tryz.f5 Rows.surbMakesRow.domain false) (Rows.surbMakesSpec.post enc Tryz.prog Tryz.f5 false true false false):=by
 refine returnsInHanded_of_change_sized (C:=Tryz.checked) own started kr Tryz.func5
   (ChangeSpec.witness6 (enc:=enc) (C:=Tryz.checked) false ⟨#[],#[.slice none 0 0,.slice none 0 0],[]⟩ 8 kr kr kr kr) ?_
 intro W base args ds gs before hval0 hW hcnd hsz0 _;have hval:∀(j:Nat) t v,Tryz.f5.params[j]? = some t→args[j]? = some v→Value.okWide Tryz.prog W .any base t v:=hval0;have hsz:(DataW.weightsEach Tryz.prog (Tryz.f5.params.toList++Rows.surbMakesSpec.plain.varTypes Tryz.prog) (ds++gs)).all (·≤reachBytes)=true:=hsz0;have hW':=hW;obtain⟨p,q,hA0,hV,rfl,hfz,hnd⟩:=hW;have hA:DataW.TrodAll enc Tryz.prog W 0 (fun _=>true) true Tryz.f5.params.toList args.toList ds p:=hA0;rw[Tryz.params5]at hA hval hsz;obtain⟨v0,vs0,d0,ds0,p0,q0,hargs,rfl,rfl,h0,r0⟩:=trodAll_cons hA;obtain⟨v1,vs1,d1,ds1,p1,q1,rfl,rfl,rfl,h1,r1⟩:=trodAll_cons r0;obtain⟨rfl,rfl,rfl⟩:=trodAll_nil r1;obtain rfl:args=#[v0,v1]:=by cases args;simp_all
 obtain⟨rfl,rfl⟩:=trodVars_none hV;have hwt:=List.all_eq_true.1 hsz;simp only[List.cons_append,List.nil_append,List.append_nil,DataW.weightsEach,List.mem_append,decide_eq_true_eq]at hwt;have k0:=h0;have lt0:∀x∈p0,x.block<W.heap.size:=by obtain⟨m,hm⟩:=k0;exact DataW.trod_lt m _ _ _ hm
 obtain⟨fuel0,hf0⟩:=h0;obtain⟨A0,n0,c0,rfl⟩:=okWide_slice Tryz.underlying22 (hval 0 22 v0 rfl rfl);obtain⟨a0,e0,q0'⟩:=(zln none (fuel0+1)).opens (Nat.lt_succ_self _) hf0 (fun k hk=>hwt k (.inl hk)) (fun b e=>by cases e);obtain⟨A0',n0',c0',l0⟩:=a0;obtain⟨rfl,rfl,rfl⟩:A0=A0'∧n0=n0'∧c0=c0':=by simpa[Value.cells,Sl.val] using e0
 have k1:=h1;have lt1:∀x∈p1,x.block<W.heap.size:=by obtain⟨m,hm⟩:=k1;exact DataW.trod_lt m _ _ _ hm
 obtain⟨fuel1,hf1⟩:=h1;obtain⟨A1,n1,c1,rfl⟩:=okWide_slice Tryz.underlying57 (hval 1 57 v1 rfl rfl);obtain⟨a1,e1,q1'⟩:=(zqp none (fuel1+1)).opens (Nat.lt_succ_self _) hf1 (fun k hk=>hwt k (.inr (.inl hk))) (fun b e=>by cases e);obtain⟨A1',n1',c1',l1⟩:=a1;obtain⟨rfl,rfl,rfl⟩:A1=A1'∧n1=n1'∧c1=c1':=by simpa[Value.cells,Sl.val] using e1
 clear hA0 hval0;refine(walkA _ q0' _ q1').mono fun e W' ⟨he,bel⟩=>?_
 subst he;exact⟨_,rfl,_,_,_,[],_,[],hW',trodAll_mk1 (shut_bool Tryz.underlying4 _),(trodAll_cons_mk (Below.trod laidOut kr (of_decide_eq_true kr) k0 bel lt0) (trodAll_cons_mk (Below.trod laidOut kr (of_decide_eq_true kr) k1 bel lt1) trodAll_mk0)),rfl,bel.frame _,fun h=>by cases h⟩
theorem over:Rows.surbMakesRow.holds Tryz.pinned (OpenSpec.ofChange Rows.surbMakesSpec) :=
 OpenClaim.holds_of_wide 5 Tryz.f5 rfl rfl rfl rfl rfl rfl rfl ⟨rfl,rfl,rfl,rfl,rfl⟩ rfl rfl rfl rfl rfl kr Tryz.func5 kr
   (of_decide_eq_true kr) (by unfold Func.isWrapper;first|(rw[if_pos (by decide +kernel)];kernel_rfl)| (rw[if_neg (by decide +kernel)];exact⟨rfl,rfl⟩))
   (fun os started H enc _=>lifted os started H enc)
theorem proved:Rows.SurbMakesSaid:=over
end
end Go.Proofs.YtpgpaenloaphaaaGreat.surbMakes
