/- Part of the proof. -/
import Derived.Test.YtafjkbbiaopemaaGreatDoorOpx19
import Derived.Test.YtafjkbbiaopemaaGreatDoorOpx20
set_option linter.all false
set_option maxRecDepth 100000
set_option maxHeartbeats 0
namespace Go.Proofs.YtafjkbbiaopemaaGreatDoor.Tr
open Go.RowKit
section
section
variable{ts:List Lx.Tok}
theorem zmo:∀(k:Nat) (l:List Rf) (s:RS),RP s (rrefLoop ts k l s).2
 | 0,_,s=>RP.refl s
 | k+1,l,s=>by
  rw[rrefLoop]
  split
  · exact(rnx_p.trans (zbj _)).trans (zmo k _ _)
  · exact RP.refl s
theorem zmn(many:Bool)(s:RS):RP s (rroutes ts many s).2:=by
 unfold rroutes
 dsimp only
 split
 · exact(zbj s).trans (zmo _ _ _)
 · exact zbj s
theorem zro(T:ByteArray)(s:RS):RP s (rwith ts T s).2:=by
 unfold rwith
 split
 · exact rnx_p.trans (zbj _)
 · exact RP.refl s
theorem REX_p(s:RS):RP s (REX ts s).2:=zdr 14 s
theorem ze8(s:RS):RP s (ratom ts (rexpr ts 14) s).2:=znb (fun s=>zdr 14 s) s
theorem zeo(s:RS):RP s (rplace ts s).2:=by
 unfold rplace
 dsimp only;refine(zbj (ts:=ts) s).trans ?_;generalize (rname ts s).2=q;refine RP.trans (q:=(if rIs ts m_at q then ratom ts (rexpr ts 14) (rnx q) else (zE,q)).2) ?_ ?_
 · split
   · exact rnx_p.trans (ze8 _)
   · exact RP.refl _
 · generalize (if rIs ts m_at q then ratom ts (rexpr ts 14) (rnx q) else (zE,q)).2=r
   split
   · exact rnx_p.trans (ze8 _)
   · exact RP.refl _
theorem zhm:∀(k:Nat) (l:List Pl) (s:RS),RP s (rplaceLoop ts k l s).2
 | 0,_,s=>RP.refl s
 | k+1,l,s=>by
  rw[rplaceLoop]
  split
  · exact RP.refl s
  · split
    · exact(zeo s).trans (rnx_p.trans (zhm k _ _))
    · exact zeo s
theorem zm7(K:ByteArray)(s:RS):RP s (rdecl ts K s).2:=by
 unfold rdecl
 dsimp only
 split
 · exact((zbj s).trans (za2 _ _)).trans ((REX_p _).trans (za2 _ _))
 · exact((zbj s).trans (za2 _ _)).trans ((zhm _ _ _).trans (za2 _ _))
section
variable{st:RS→St × RS}(hst:∀s,RP s (st s).2)
include hst
theorem zg9:∀(k:Nat) (l:List St) (s:RS),RP s (rstmtsLoop ts st k l s).2
 | 0,_,s=>RP.refl s
 | k+1,l,s=>by
  rw[rstmtsLoop]
  split
  · exact(hst s).trans (zg9 k _ _)
  · exact RP.refl s
theorem zgj(s:RS):RP s (rstmts ts st s).2:=zg9 hst _ _ _
def rbo(ts:List Lx.Tok)(s:RS):RS:={ rneed ts m_lbr (if rIs ts m_lbr s && s.bo == 12 then rstop ts 11 s else s)with bo:=s.bo+1 }
omit hst in
theorem rbo_eq(s:RS):rbo ts s = { rneed ts m_lbr (if rIs ts m_lbr s && s.bo == 12 then rstop ts 11 s else s)with bo:=(rneed ts m_lbr (if rIs ts m_lbr s && s.bo == 12 then rstop ts 11 s else s)).bo+1 }:=by
 unfold rbo
 rw[(zb2 _ _).2]
 split
 · rw[(zd1 _ _).2]
 · rfl
omit hst in
theorem ziy(s:RS):RP s (rneed ts m_lbr (if rIs ts m_lbr s && s.bo == 12 then rstop ts 11 s else s)):=by
 refine RP.trans ?_ (za2 m_lbr _)
 split
 · exact ze3 _ _
 · exact RP.refl s
theorem zj9(s:RS):rbody ts st s=((rstmts ts st (rbo ts s)).1,{ rneed ts m_rbr (rstmts ts st (rbo ts s)).2 with bo:=s.bo }):=by
 have h1:=(zgj (ts:=ts) hst (rbo ts s)).bo;have h2:(rbo ts s).bo=s.bo+1:=rfl;have h3:=(zb2 (ts:=ts) m_rbr (rstmts ts st (rbo ts s)).2).2
 have h4:rbody ts st s=((rstmts ts st (rbo ts s)).1,{ rneed ts m_rbr (rstmts ts st (rbo ts s)).2 with bo:=(rneed ts m_rbr (rstmts ts st (rbo ts s)).2).bo-1 }):=by
  rw[rbo_eq];rfl
 rw[h4,h3,h1,h2,show s.bo+1-1=s.bo by omega]
theorem zix(s:RS):RP s (rbody ts st s).2:=by
 rw[zj9 hst];have h1:=ziy (ts:=ts) s;have h2:=(zgj (ts:=ts) hst (rbo ts s)).trans (za2 (ts:=ts) m_rbr _);refine⟨rfl,fun hb=>?_,?_,Nat.le_trans h1.le h2.le⟩
 · obtain⟨h3,h4⟩:=h1.st hb
   obtain⟨h5,h6⟩:=h2.st h3;exact⟨h5,h6.trans h4⟩
 · rcases h1.pa with h3|⟨h3,h4⟩
   · rcases h2.pa with h5|⟨h5,h6⟩
     · exact .inl (h5.trans h3)
     · exact .inr ⟨h5,h6.trans (by show(rneed ts m_lbr _).pa+1=_;rw[h3])⟩
   · obtain⟨h5,h6⟩:=h2.st h3
     exact .inr ⟨h5,h6.trans h4⟩
theorem rels_p(s:RS):RP s (if rIs ts k_else s then rbody ts st (rnx s) else ([],s)).2:=by
 split
 · exact rnx_p.trans (zix hst _)
 · exact RP.refl s
theorem zhl(s:RS):RP (rnx s) (rstmtG ts st s).2:=by
 have E:=fun s=>REX_p (ts:=ts) s
 have B:=fun s=>zix (ts:=ts) hst s
 have R:=fun b s=>zmn (ts:=ts) b s
 have W:=fun T s=>zro (ts:=ts) T s
 have N:=fun T s=>za2 (ts:=ts) T s
 have M:=fun s=>zbj (ts:=ts) s
 unfold rstmtG
 dsimp only;generalize ((rk ts s).at_:Int)=at_;generalize bytesOf (rk ts s).text=kd
 by_cases h_k_send:kd=k_send
 · rw[if_pos h_k_send]
   exact(((((E _).trans (N _ _)).trans (R _ _)).trans (W _ _)).trans (W _ _)).trans (N _ _)
 rw[if_neg h_k_send]
 by_cases h_k_split:kd=k_split
 · rw[if_pos h_k_split]
   exact((((E _).trans (N _ _)).trans (R _ _)).trans (W _ _)).trans (N _ _)
 rw[if_neg h_k_split]
 by_cases h_k_retry:kd=k_retry
 · rw[if_pos h_k_retry]
   exact((((((((E _).trans (N _ _)).trans (E _)).trans (N _ _)).trans (E _)).trans (N _ _)).trans (R _ _)).trans (W _ _)).trans (N _ _)
 rw[if_neg h_k_retry]
 by_cases h_k_cover:kd=k_cover
 · rw[if_pos h_k_cover]
   exact(R _ _).trans (N _ _)
 rw[if_neg h_k_cover]
 by_cases h_k_wait:kd=k_wait
 · rw[if_pos h_k_wait]
   exact(E _).trans (N _ _)
 rw[if_neg h_k_wait]
 by_cases h_k_block:kd=k_block
 · rw[if_pos h_k_block]
   exact(((M _).trans (N _ _)).trans (R _ _)).trans (N _ _)
 rw[if_neg h_k_block]
 by_cases h_k_every:kd=k_every
 · rw[if_pos h_k_every]
   exact(((((E _).trans (N _ _)).trans (E _)).trans (N _ _)).trans (R _ _)).trans (N _ _)
 rw[if_neg h_k_every]
 by_cases h_k_after:kd=k_after
 · rw[if_pos h_k_after]
   exact(E _).trans (B _)
 rw[if_neg h_k_after]
 by_cases h_k_repeat:kd=k_repeat
 · rw[if_pos h_k_repeat]
   exact((M _).trans (E _)).trans (B _)
 rw[if_neg h_k_repeat]
 by_cases h_k_if:kd=k_if
 · rw[if_pos h_k_if]
   exact(((N _ _).trans (M _)).trans (B _)).trans (rels_p hst _)
 rw[if_neg h_k_if];exact N _ _
theorem zoz(s:RS):RP s (rstmtG ts st s).2:=rnx_p.trans (zhl hst s)
end
theorem ze4:∀(d:Nat) (s:RS),RP s (rstmt ts d s).2
 | 0,s=>ze3 9 s
 | d+1,s=>zoz (fun s=>ze4 d s) s
theorem zaz(HT:Ends ts){s:RS}(h:rbegins ts s=true):s.i+1<ts.length:=HT s.i (fun e=>by
 unfold rbegins isOf rk at h
 rw[e]at h
 simp at h)
theorem zf3{s:RS}(h:rbegins ts s=true):s.bad=false:=by unfold rbegins at h;simp at h;exact h.1
theorem zle{s:RS}(h:rbegins ts s=true):bytesOf (rk ts s).text∈ten:=by
 unfold rbegins isOf at h
 simp only[Bool.and_eq_true]at h;exact zbz.1 h.2.2
end
end
section
def RLo(gp:Nat)(A:Option Addr)(B:Nat):Prop:=gp<B∧∀ad:Addr,A=some ad→ad.block<B
structure RTm(gp:Nat)(A:Option Addr)(n c:Nat)(ts:List Lx.Tok)(w0:World)(g:Nat)(E:Ex)(q:RS)(a:Option Addr × Nat)(w:World):Prop where
 st:RSt gp A n c ts q w
 wr:Wr [gp] w0 w
 z:Blk w w0.heap.size 39 zEc
 e:Blk w g 39 (exC E a)
 ar:ArgsIn (Fx w0.heap.size g) w a.1 E.args
 lt:w0.heap.size<g
 lo:RLo gp A w0.heap.size
section
variable{gp:Nat}{A:Option Addr}{n c:Nat}{ts:List Lx.Tok}{s q q':RS}{w w' w0:World}{g:Nat}{E:Ex}{a:Option Addr × Nat}
theorem RSt.lo(cx:RCx gp A n ts)(h:RSt gp A n c ts s w):RLo gp A w.heap.size:=⟨h.b.lt,h.old cx⟩
theorem RSt.only{B:Nat}(h:RSt gp A n c ts s w)(hl:RLo gp A B)(hg:B≤g)(ho:Only w w' g):RSt gp A n c ts s w':=h.far' ho (by have:=hl.1;omega) (fun ad e=>by have:=hl.2 ad e;omega)
theorem RTm.call(h:RTm gp A n c ts w0 g E q a w)(hs:RSt gp A n c ts q' w')(hW:Wr [gp] w w'):RTm gp A n c ts w0 g E q' a w':=by
 have h1:=h.lo.1;have h2:=h.lt;exact⟨hs,h.wr.trans hW,(hW.block _ h.z.lt (by simp;omega)).trans h.z,(hW.block _ h.e.lt (by simp;omega)).trans h.e,h.ar.keep (zb6 hW (fun x hx=>by rw[List.mem_singleton.1 hx];omega)),h.lt,h.lo⟩
theorem RTm.grow{X:Ex}{y:Option Addr × Nat}{op:ByteArray}{at_:Int}(h:RTm gp A n c ts w0 g E q a w)(hy:ArgsIn (Fx w0.heap.size g) w y.1 X.args)
 (hb:Blk w' g 39 (exC (.mk op 0 zs at_ [E,X]) (some ⟨w.heap.size,0,none⟩,2))) (ho:Only (w.alloc (.cells (exC E a++exC X y).toArray 39)) w' g):
 RTm gp A n c ts w0 g (.mk op 0 zs at_ [E,X]) q (some ⟨w.heap.size,0,none⟩,2) w':=by
 have hlt:=h.e.lt;have hlt2:=h.lt;refine⟨(h.st.alloc _).only h.lo (Nat.le_of_lt h.lt) ho,(h.wr.alloc _).thenb (ho.below (Below.refl _ _) (Nat.le_of_lt h.lt) (h.wr.alloc _).size),ho.blk (h.z.alloc _) om,hb,?_,h.lt,h.lo⟩;have hn:Blk w' w.heap.size 39 (exC E a++exC X y):=ho.blk (Blk.new w _ _) om;exact ArgsIn.two hn ⟨by omega,by omega⟩ ((h.ar.keep (zbl _)).keep (zd6 ho)) ((hy.keep (zbl _)).keep (zd6 ho))
end
end
section
section
variable{P:Program}{w:World}{ops:Array Oper}{rest:List Oper}{o:Oper}{a:Act}{Q:Exit→Act→World→Prop}
theorem zed(hgd:o.guard=none)(t e:TypeId)(x y:Operand)(ho:o.op=.buildSlice t 2 #[(0,x),(1,y)])(cs ds:List Value)(hx:a.eval x=.agg cs.toArray)(hy:a.eval y=.agg ds.toArray)(hu:P.underlying t=some (.slice e))(hi:(P.info? e).map (fun i=>((i.zero.map (fun z=>z.cells.size)),i.size))=some (some cs.length,cs.length))(hl:ds.length=cs.length)(hpos:0<cs.length)(hsm:cs.length≤1000000)
 (h:wpList P ops Q rest (a.put o.dst (.slice (some ⟨w.heap.size,0,none⟩) 2 2)) (w.alloc (.cells (cs++ds).toArray e))):wpList P ops Q (o :: rest) a w :=
 zcr hgd fun _ hK=>zca (zn8 t e x y ho cs ds hx hy hu hi hl hpos hsm) (hK _ _ h)
end
theorem agS{op:ByteArray}{x:Int}{g g':Nat}(h:g=g'):(Value.agg #[.string op,.int .i64 0,.string zs,.int .i64 x,.slice (some ⟨g,0,none⟩) 2 2])=.agg #[.string op,.int .i64 0,.string zs,.int .i64 x,.slice (some ⟨g',0,none⟩) 2 2]:=by rw[h]
section
variable{gp:Nat}{A:Option Addr}{n c:Nat}{ts:List Lx.Tok}{s q q':RS}{w w' w0:World}{g:Nat}{E:Ex}{a:Option Addr × Nat}
theorem RQ.rp{d:Nat}(h:RQ d s)(k:RP s q):RQ d q:=by
 have h0:=h.p0;have h1:=h.p1
 cases hs:s.bad
 · obtain⟨h2,h3⟩:=h.ok hs
   rcases k.pa with h4|⟨h4,h5⟩
   · exact⟨by omega,by omega,h.d1,fun _=>by omega⟩
   · exact⟨by omega,by omega,h.d1,fun hb=>by rw[h4]at hb;cases hb⟩
 · obtain⟨h4,h5⟩:=k.st hs
   exact⟨by omega,by omega,h.d1,fun hb=>by rw[h4]at hb;cases hb⟩
theorem zrs(cx:RCx gp A n ts)(ex:RS→Ex × RS)(d:Nat)(hf:RExK gp A n c ts 114 (rfactor ts ex) (RQ d))(hg:∀s,RP s (rfactor ts ex s).2):RExK gp A n c ts 88 (rterm ts ex) (RQ d):=by
 intro s w h hq;have HF:=qh (fun s W (h:RSt gp A n c ts s W) hq=>hf s W h hq);have HA:=qh (fun q W (h:RSt gp A n c ts q W)=>zbp m_star cx h);have HH:=qh (h.alloc (.cells #[.string { data:=#[] },.int .i64 0,.string { data:=#[] },.int .i64 0,.slice none 0 0] 39));have HE:Hid (Wr [gp] w (w.alloc (.cells #[.string { data:=#[] },.int .i64 0,.string { data:=#[] },.int .i64 0,.slice none 0 0] 39))):=(Wr.refl _ _).alloc _;have HB:Hid (Blk (w.alloc (.cells #[.string { data:=#[] },.int .i64 0,.string { data:=#[] },.int .i64 0,.slice none 0 0] 39)) w.heap.size 39 zEc):=Blk.new' rfl rfl;have HLO:=qh (h.lo cx);have HNG:Hid (w.heap.size ∉ [gp]):=by show _ ∉ _;have:=h.b.lt;simp;omega
 have HQ1:=qh (hq.rp (hg s));have HT:Hid (rterm ts ex s=rtermLoop ts ex (ts.length+1) (rfactor ts ex s).1 (rfactor ts ex s).2):=rfl;rw[HT.out];have HF1:=qh (HF.out s _ HH.out hq);have HCX:=qh cx;clear h hq HT;generalize (rfactor ts ex s).1=E1 at *;generalize (rfactor ts ex s).2=q1 at *;generalize hR:rtermLoop ts ex (ts.length+1) E1 q1=R at *;have HR:=qh hR;clear hR cx
 unfold exC at HF1
 go_enter Tryz.func88, Tryz.ntmps88
 go_wp2_with (go_at_call 114;(refine(HF1.out).mono ?_);rintro e w1 ⟨a1,rfl,ha1,h1,hW1⟩;have HS1:Hid (RTm gp A n c ts w w1.heap.size E1 q1 a1 (w1.alloc (.cells (exC E1 a1).toArray 39))):=⟨h1.alloc _,(HE.out.trans hW1).alloc _,Blk.alloc ((hW1.block _ HB.out.lt HNG.out).trans HB.out) _,Blk.new' rfl rfl,(ha1.keep (zev HB.out.lt rfl)).keep (zbl _),Nat.lt_of_lt_of_le HB.out.lt hW1.size,HLO.out⟩;clear ha1 h1 hW1)
 have hzl:w.heap.size<w1.heap.size:=HS1.out.lt;have HTL:=qh (fun(kk:Nat) (E:Ex) (q:RS)=>(⟨fun h=>(by rw[rtermLoop,if_neg (by rw[h];simp)]),fun h=>(by rw[rtermLoop,if_pos h])⟩:(rIs ts m_star q=false→rtermLoop ts ex (kk+1) E q=(E,q))∧(rIs ts m_star q=true→rtermLoop ts ex (kk+1) E q=rtermLoop ts ex kk (.mk m_star 0 zs E.at_ [E,(rfactor ts ex (rnx q)).1]) (rfactor ts ex (rnx q)).2)));clear HH HE HB HF1;generalize w1.heap.size=G at *
 go_loopg [4] ts.length (fun kk v4 wr=>∃(E:Ex) (q:RS) (a:Option Addr × Nat),RTm gp A n c ts w G E q a wr∧ts.length≤kk+q.i∧rtermLoop ts ex (kk+1) E q=R∧RQ d q)
 case atStart=>exact⟨E1,q1,a1,HS1.out,by omega,HR.out,HQ1.out⟩
 case round =>
  clear HS1 HR HQ1;obtain⟨E,q,a,hS,hk,hT,hQ⟩:=hrel
  cases hs:rIs ts m_star q
  · have HS:=qh hS
    have HAL:=HA.out q _ hS.st;have HRR:Hid (R=(E,q)):=hT.symm.trans ((HTL.out gk E q).1 hs);have HAP:Hid (rover ts m_star q=q):=(by show _=_;unfold rover;rw[hs];rfl);rw[hs,HAP.out]at HAL;have HALL:=qh HAL;clear hS hk hT hQ hs HAL HTL
    go_wp2_with (go_at_call 65;(refine(HALL.out).mono ?_);rintro e w2 ⟨rfl,h2,hW2⟩;have HS2:=qh (HS.out.call h2 hW2);have he2:=HS2.out.e;obtain⟨n0,n1,n2,n3,n4⟩:=Blk.five he2;obtain⟨z0,z1,z2,z3,z4⟩:=Blk.five HS2.out.z;obtain⟨f0,f1,f2,f3,f4⟩:=Blk.fro5 HS2.out.z;clear h2 hW2 he2)
    refine bodyPost_ret (res_c rfl _ w.heap.size 39 (exC E a) rfl (by exact(zax HS2.out.z).1) _ Tryz.underlying39 rfl hdEx) rfl ?_;rw[HRR.out];refine⟨a,rfl,?_,?_,?_⟩
    · exact(((((HS2.out.ar.keep (zag _)).keep (zag _)).keep (zag _)).keep (zag _)).keep (zag _)).keep zbk
    · exact HS2.out.st.only HLO.out lr (zax HS2.out.z).2
    · exact((((HS2.out.wr.setNew lr _).setNew lr _).setNew lr _).setNew lr _).setNew lr _
  · have HS:=qh hS
    have HAL:=HA.out q _ hS.st;have hlt:=zc5 HCX.out hs;have HAP:Hid (rover ts m_star q=rnx q):=(by show _=_;unfold rover;rw[hs];rfl);rw[hs,HAP.out]at HAL;have HALL:=qh HAL;have hQ2:RQ d (rnx q):=hQ.rp rnx_p;have HFX:=qh (fun W (h:RSt gp A n c ts (rnx q) W)=>HF.out (rnx q) W h hQ2);have HQ3:=qh (hQ2.rp (hg (rnx q)));have HI3:Hid (q.i+1≤(rfactor ts ex (rnx q)).2.i):=(hg (rnx q)).le;have HT2:=qh (((HTL.out gk E q).2 hs).symm.trans hT);have HKL:=qh (And.intro hk hlt);clear hS hk hT hQ hs HAL HTL hlt hQ2;generalize (rfactor ts ex (rnx q)).1=X at *;generalize (rfactor ts ex (rnx q)).2=q3 at *
    unfold exC at HFX
    go_wp2_with (first
     | (refine zed rfl 37 39 (.tmp 13) (.tmp 14) rfl (exC E a) (exC X y) rr rr Tryz.underlying37 kr rfl (by rw[zbn];omega) (by rw[zbn];omega) ?_)
     | (refine zaa rfl 39 (.tmp 3) (.tmp 16) rfl G (exC (.mk m_star 0 zs E.at_ [E,X]) (some ⟨w3.heap.size+1,0,none⟩,2)) rr (by exact agS sy) 39 (exC E a) (by exact HS4.out.e.alloc _) hdEx (zai _ _) rfl ?_;intro w5 hb5 ho5;have HS5:=qh (HS4.out.grow HY4.out (by simpa using hb5) ho5);clear hb5 ho5)
     | (go_at_call 114;(refine(HFX.out _ (by exact HS2.out.st)).mono ?_);rintro e w3 ⟨y,rfl,hy3,h3,hW3⟩;have hl2:=HS2.out.e.lt;have HS3:=qh (HS2.out.call h3 hW3);have HS4:=qh (HS3.out.call (HS3.out.st.alloc (.cells (exC X y).toArray 39)) ((Wr.refl _ _).alloc _));have HY4:=qh ((hy3.keep (zfg (g:=G) (Nat.lt_of_lt_of_le hzl (Nat.le_of_lt (hl2))) (hl2))).keep (zbl (.cells (exC X y).toArray 39)));obtain⟨n0,n1,n2,n3,n4⟩:=Blk.five HS3.out.e;obtain⟨f0,f1,f2,f3,f4⟩:=Blk.fro5 HS3.out.e;have hg3:G<w3.heap.size:=HS3.out.e.lt;clear hy3 h3 hW3)
     | (go_at_call 65;(refine(HALL.out).mono ?_);rintro e w2 ⟨rfl,h2,hW2⟩;have HS2:=qh (HS.out.call h2 hW2);clear h2 hW2))
    have hk5:=HKL.out;have hi5:=HI3.out;go_roundg (gk-1)
    case measure=>omega
    case rel=>exact⟨_,q3,_,HS5.out,by omega,by rw[show gk-1+1=gk by omega];exact HT2.out,HQ3.out⟩
theorem zrv(cx:RCx gp A n ts)(ex:RS→Ex × RS)(d:Nat)(hf:RExK gp A n c ts 88 (rterm ts ex) (RQ d))(hg:∀s,RP s (rterm ts ex s).2):RExK gp A n c ts 64 (rexprG ts ex) (RQ d):=by
 intro s w h hq;have HF:=qh (fun s W (h:RSt gp A n c ts s W) hq=>hf s W h hq);have HA:=qh (fun q W (h:RSt gp A n c ts q W)=>is_c m_plus cx h);have HA2:=qh (fun q W (h:RSt gp A n c ts q W)=>is_c m_minus cx h);have HNW:=qh (fun q W (h:RSt gp A n c ts q W)=>now_c cx h);have HH:=qh (h.alloc (.cells #[.string { data:=#[] },.int .i64 0,.string { data:=#[] },.int .i64 0,.slice none 0 0] 39));have HE:Hid (Wr [gp] w (w.alloc (.cells #[.string { data:=#[] },.int .i64 0,.string { data:=#[] },.int .i64 0,.slice none 0 0] 39))):=(Wr.refl _ _).alloc _;have HB:Hid (Blk (w.alloc (.cells #[.string { data:=#[] },.int .i64 0,.string { data:=#[] },.int .i64 0,.slice none 0 0] 39)) w.heap.size 39 zEc):=Blk.new' rfl rfl;have HLO:=qh (h.lo cx);have HNG:Hid (w.heap.size ∉ [gp]):=by show _ ∉ _;have:=h.b.lt;simp;omega
 have HQ1:=qh (hq.rp (hg s));have HT:Hid (rexprG ts ex s=rexprLoop ts ex (ts.length+1) (rterm ts ex s).1 (rterm ts ex s).2):=rfl;rw[HT.out];have HF1:=qh (HF.out s _ HH.out hq);have HCX:=qh cx;clear h hq HT;generalize (rterm ts ex s).1=E1 at *;generalize (rterm ts ex s).2=q1 at *;generalize hR:rexprLoop ts ex (ts.length+1) E1 q1=R at *;have HR:=qh hR;clear hR cx
 unfold exC at HF1
 go_enter Tryz.func64, Tryz.ntmps64
 go_wp2_with (go_at_call 88;(refine(HF1.out).mono ?_);rintro e w1 ⟨a1,rfl,ha1,h1,hW1⟩;have HS1:Hid (RTm gp A n c ts w w1.heap.size E1 q1 a1 (w1.alloc (.cells (exC E1 a1).toArray 39))):=⟨h1.alloc _,(HE.out.trans hW1).alloc _,Blk.alloc ((hW1.block _ HB.out.lt HNG.out).trans HB.out) _,Blk.new' rfl rfl,(ha1.keep (zev HB.out.lt rfl)).keep (zbl _),Nat.lt_of_lt_of_le HB.out.lt hW1.size,HLO.out⟩;clear ha1 h1 hW1)
 have hzl:w.heap.size<w1.heap.size:=HS1.out.lt;have HTL:=qh (fun(kk:Nat) (E:Ex) (q:RS)=>(⟨fun h h2=>(by rw[rexprLoop,if_neg (by rw[h,h2];simp)]),fun h=>(by rw[rexprLoop,if_pos h])⟩:(rIs ts m_plus q=false→rIs ts m_minus q=false→rexprLoop ts ex (kk+1) E q=(E,q))∧((rIs ts m_plus q || rIs ts m_minus q)=true→rexprLoop ts ex (kk+1) E q=rexprLoop ts ex kk (.mk (bytesOf (rk ts q).text) 0 zs E.at_ [E,(rterm ts ex (rnx q)).1]) (rterm ts ex (rnx q)).2)));clear HH HE HB HF1;generalize w1.heap.size=G at *
 go_loopg [4,5] ts.length (fun kk v4 v5 wr=>∃(E:Ex) (q:RS) (a:Option Addr × Nat),RTm gp A n c ts w G E q a wr∧ts.length≤kk+q.i∧rexprLoop ts ex (kk+1) E q=R∧RQ d q)
 case atStart=>exact⟨E1,q1,a1,HS1.out,by omega,HR.out,HQ1.out⟩
 case round =>
  clear HS1 HR HQ1;obtain⟨E,q,a,hS,hk,hT,hQ⟩:=hrel
  cases hs:rIs ts m_plus q
  · cases hs2:rIs ts m_minus q
    · have HS:=qh hS
      have HRR:Hid (R=(E,q)):=hT.symm.trans ((HTL.out gk E q).1 hs hs2);have HAL:=fun W h=>HA.out q W h
      have HAL2:=fun W h=>HA2.out q W h
      rw[hs]at HAL;rw[hs2]at HAL2;have HALL:=qh HAL;have HALL2:=qh HAL2;clear hS hk hT hQ hs hs2 HAL HAL2 HTL HA HA2 HNW
      go_wp2_with (first
       | (go_at_call 26;(with_reducible refine(HALL2.out _ (by exact HS1.out.st)).mono ?_);rintro e w2 ⟨rfl,hB2⟩;have HS2:=qh (HS1.out.call (HS1.out.st.below hB2) (Wr.of_below hB2));have he2:=HS2.out.e;obtain⟨n0,n1,n2,n3,n4⟩:=Blk.five he2;obtain⟨z0,z1,z2,z3,z4⟩:=Blk.five HS2.out.z;obtain⟨f0,f1,f2,f3,f4⟩:=Blk.fro5 HS2.out.z;clear hB2 he2)
       | (go_at_call 26;(with_reducible refine(HALL.out _ (by exact HS.out.st)).mono ?_);rintro e w8 ⟨rfl,hB2⟩;have HS1:=qh (HS.out.call (HS.out.st.below hB2) (Wr.of_below hB2));clear hB2))
      refine bodyPost_ret (res_c rfl _ w.heap.size 39 (exC E a) rfl (by exact(zax HS2.out.z).1) _ Tryz.underlying39 rfl hdEx) rfl ?_;rw[HRR.out];refine⟨a,rfl,?_,?_,?_⟩
      · exact(((((HS2.out.ar.keep (zag _)).keep (zag _)).keep (zag _)).keep (zag _)).keep (zag _)).keep zbk
      · exact HS2.out.st.only HLO.out lr (zax HS2.out.z).2
      · exact((((HS2.out.wr.setNew lr _).setNew lr _).setNew lr _).setNew lr _).setNew lr _
    · have HS:=qh hS
      have hor:(rIs ts m_plus q || rIs ts m_minus q)=true:=(by rw[hs,hs2];rfl);have hlt:=(zc5 HCX.out hs2);have HAL:=fun W h=>HA.out q W h
      rw[hs]at HAL;have HALL:=qh HAL;have HAL2:=fun W h=>HA2.out q W h
      rw[hs2]at HAL2;have HALL2:=qh HAL2;have HNN:=qh (fun W h=>HNW.out q W h);have HNX:=qh (fun W (h:RSt gp A n c ts q W)=>RSt.next HCX.out h hlt);have hQ2:RQ d (rnx q):=hQ.rp rnx_p;have HFX:=qh (fun W (h:RSt gp A n c ts (rnx q) W)=>HF.out (rnx q) W h hQ2);have HQ3:=qh (hQ2.rp (hg (rnx q)));have HI3:Hid (q.i+1≤(rterm ts ex (rnx q)).2.i):=(hg (rnx q)).le;have HT2:=qh (((HTL.out gk E q).2 hor).symm.trans hT);have HKL:=qh (And.intro hk hlt);have hi8:q.i<100000:=by have:=HCX.out.hn;have:=HCX.out.hn8;omega
      have HX:Hid (∀W,RSt gp A n c ts q W→W.cell? ⟨gp,1,none⟩=some (.int .i64 q.i)∧W.frozen? ⟨gp,1,none⟩=false∧gp<W.heap.size):=fun W h=>⟨h.b.cell 1,h.b.frozen 1,h.b.lt⟩
      clear hS hk hT hQ hs hs2 HAL HTL hlt hQ2 hor HA HA2 HNW HAL2;generalize (rterm ts ex (rnx q)).1=X at *;generalize (rterm ts ex (rnx q)).2=q3 at *;generalize rk ts q=t at *
      unfold tokCells at HNN
      unfold exC at HFX
      have hf:=fld1 (.int .i64 t.kind) (.string (bytesOf t.text)) (.int .i64 t.num) (.int .i64 t.at_)
      go_wp2_with (first
       | (refine zed rfl 37 39 (.tmp 29) (.tmp 30) rfl (exC E a) (exC X y) rr rr Tryz.underlying37 kr rfl (by rw[zbn];omega) (by rw[zbn];omega) ?_)
       | (refine zaa rfl 39 (.tmp 3) (.tmp 32) rfl G (exC (.mk (bytesOf t.text) 0 zs E.at_ [E,X]) (some ⟨w3.heap.size+1,0,none⟩,2)) rr (by exact agS sy) 39 (exC E a) (by exact HS4.out.e.alloc _) hdEx (zai _ _) rfl ?_;intro w5 hb5 ho5;have HS5:=qh (HS4.out.grow HY4.out (by simpa using hb5) ho5);clear hb5 ho5)
       | (go_at_call 88;(refine(HFX.out _ (by exact HX4.out.1)).mono ?_);rintro e w3 ⟨y,rfl,hy3,h3,hW3⟩;have hl2:=HS2.out.e.lt;have HS3:=qh (HS2.out.call h3 (HX4.out.2.trans hW3));have HS4:=qh (HS3.out.call (HS3.out.st.alloc (.cells (exC X y).toArray 39)) ((Wr.refl _ _).alloc _));have HY4:=qh ((hy3.keep (zfg (g:=G) (Nat.lt_of_lt_of_le hzl (Nat.le_of_lt (Nat.lt_of_lt_of_le hl2 HX4.out.2.size))) (Nat.lt_of_lt_of_le hl2 HX4.out.2.size))).keep (zbl (.cells (exC X y).toArray 39)));obtain⟨n0,n1,n2,n3,n4⟩:=Blk.five HS3.out.e;obtain⟨f0,f1,f2,f3,f4⟩:=Blk.fro5 HS3.out.e;have hg3:G<w3.heap.size:=HS3.out.e.lt;clear hy3 h3 hW3)
       | (go_at_call 27;(refine(HNN.out _ (by exact HS1.out.st)).mono ?_);rintro e w2 ⟨rfl,hB2⟩;have HS2:=qh (HS1.out.call (HS1.out.st.below hB2) (Wr.of_below hB2));obtain⟨k1,j1,l1⟩:=HX.out w2 HS2.out.st;have HX4:=qh (HNX.out w2 HS2.out.st);clear hB2)
       | (go_at_call 26;(with_reducible refine(HALL2.out _ (by exact HS9.out.st)).mono ?_);rintro e w8 ⟨rfl,hB2⟩;have HS1:=qh (HS9.out.call (HS9.out.st.below hB2) (Wr.of_below hB2));clear hB2)
       | (go_at_call 26;(with_reducible refine(HALL.out _ (by exact HS.out.st)).mono ?_);rintro e w8 ⟨rfl,hB2⟩;have HS9:=qh (HS.out.call (HS.out.st.below hB2) (Wr.of_below hB2));clear hB2))
      have hk5:=HKL.out;have hi5:=HI3.out;go_roundg (gk-1)
      case measure=>omega
      case rel=>exact⟨_,q3,_,HS5.out,by omega,by rw[show gk-1+1=gk by omega];exact HT2.out,HQ3.out⟩
  · have HS:=qh hS
    have hor:(rIs ts m_plus q || rIs ts m_minus q)=true:=(by rw[hs];rfl);have hlt:=(zc5 HCX.out hs);have HAL:=fun W h=>HA.out q W h
    rw[hs]at HAL;have HALL:=qh HAL;have HNN:=qh (fun W h=>HNW.out q W h);have HNX:=qh (fun W (h:RSt gp A n c ts q W)=>RSt.next HCX.out h hlt);have hQ2:RQ d (rnx q):=hQ.rp rnx_p;have HFX:=qh (fun W (h:RSt gp A n c ts (rnx q) W)=>HF.out (rnx q) W h hQ2);have HQ3:=qh (hQ2.rp (hg (rnx q)));have HI3:Hid (q.i+1≤(rterm ts ex (rnx q)).2.i):=(hg (rnx q)).le;have HT2:=qh (((HTL.out gk E q).2 hor).symm.trans hT);have HKL:=qh (And.intro hk hlt);have hi8:q.i<100000:=by have:=HCX.out.hn;have:=HCX.out.hn8;omega
    have HX:Hid (∀W,RSt gp A n c ts q W→W.cell? ⟨gp,1,none⟩=some (.int .i64 q.i)∧W.frozen? ⟨gp,1,none⟩=false∧gp<W.heap.size):=fun W h=>⟨h.b.cell 1,h.b.frozen 1,h.b.lt⟩
    clear hS hk hT hQ hs HAL HTL hlt hQ2 hor HA HA2 HNW;generalize (rterm ts ex (rnx q)).1=X at *;generalize (rterm ts ex (rnx q)).2=q3 at *;generalize rk ts q=t at *
    unfold tokCells at HNN
    unfold exC at HFX
    have hf:=fld1 (.int .i64 t.kind) (.string (bytesOf t.text)) (.int .i64 t.num) (.int .i64 t.at_)
    go_wp2_with (first
     | (refine zed rfl 37 39 (.tmp 29) (.tmp 30) rfl (exC E a) (exC X y) rr rr Tryz.underlying37 kr rfl (by rw[zbn];omega) (by rw[zbn];omega) ?_)
     | (refine zaa rfl 39 (.tmp 3) (.tmp 32) rfl G (exC (.mk (bytesOf t.text) 0 zs E.at_ [E,X]) (some ⟨w3.heap.size+1,0,none⟩,2)) rr (by exact agS sy) 39 (exC E a) (by exact HS4.out.e.alloc _) hdEx (zai _ _) rfl ?_;intro w5 hb5 ho5;have HS5:=qh (HS4.out.grow HY4.out (by simpa using hb5) ho5);clear hb5 ho5)
     | (go_at_call 88;(refine(HFX.out _ (by exact HX4.out.1)).mono ?_);rintro e w3 ⟨y,rfl,hy3,h3,hW3⟩;have hl2:=HS2.out.e.lt;have HS3:=qh (HS2.out.call h3 (HX4.out.2.trans hW3));have HS4:=qh (HS3.out.call (HS3.out.st.alloc (.cells (exC X y).toArray 39)) ((Wr.refl _ _).alloc _));have HY4:=qh ((hy3.keep (zfg (g:=G) (Nat.lt_of_lt_of_le hzl (Nat.le_of_lt (Nat.lt_of_lt_of_le hl2 HX4.out.2.size))) (Nat.lt_of_lt_of_le hl2 HX4.out.2.size))).keep (zbl (.cells (exC X y).toArray 39)));obtain⟨n0,n1,n2,n3,n4⟩:=Blk.five HS3.out.e;obtain⟨f0,f1,f2,f3,f4⟩:=Blk.fro5 HS3.out.e;have hg3:G<w3.heap.size:=HS3.out.e.lt;clear hy3 h3 hW3)
     | (go_at_call 27;(refine(HNN.out _ (by exact HS1.out.st)).mono ?_);rintro e w2 ⟨rfl,hB2⟩;have HS2:=qh (HS1.out.call (HS1.out.st.below hB2) (Wr.of_below hB2));obtain⟨k1,j1,l1⟩:=HX.out w2 HS2.out.st;have HX4:=qh (HNX.out w2 HS2.out.st);clear hB2)
     | (go_at_call 26;(refine(HALL.out _ (by exact HS.out.st)).mono ?_);rintro e w8 ⟨rfl,hB2⟩;have HS1:=qh (HS.out.call (HS.out.st.below hB2) (Wr.of_below hB2));clear hB2))
    have hk5:=HKL.out;have hi5:=HI3.out;go_roundg (gk-1)
    case measure=>omega
    case rel=>exact⟨_,q3,_,HS5.out,by omega,by rw[show gk-1+1=gk by omega];exact HT2.out,HQ3.out⟩
end
end
section
section
variable{gp:Nat}{A:Option Addr}{n c:Nat}{ts:List Lx.Tok}{s:RS}{w w':World}
theorem RLo.mono{B B':Nat}(h:RLo gp A B)(hB:B≤B'):RLo gp A B':=⟨Nat.lt_of_lt_of_le h.1 hB,fun ad e=>Nat.lt_of_lt_of_le (h.2 ad e) hB⟩
theorem RLo.all{B:Nat}(h:RLo gp A B):∀x∈[gp],x≤B:=by
 intro x hx;have h2:=h.1;simp only[List.mem_cons,List.not_mem_nil,or_false]at hx;omega
theorem RLo.nin{B:Nat}(h:RLo gp A B):∀x∈[gp],x<B:=by
 intro x hx;have h2:=h.1;simp only[List.mem_cons,List.not_mem_nil,or_false]at hx;omega
theorem Blk.wrR{g:Nat}{t:TypeId}{cs:List Value}{B:Nat}(h:Blk w g t cs)(hw:Wr [gp] w w')(hl:RLo gp A B)(hg:B≤g):Blk w' g t cs:=(hw.block g h.lt (by have h1:=hl.1;simp;omega)).trans h
theorem RSt.belowB{B:Nat}(h:RSt gp A n c ts s w)(hl:RLo gp A B)(hb:Below B w w'):RSt gp A n c ts s w':=⟨h.b.below hb hl.1,RdS.belowB h.r hb hl.2,h.lt⟩
theorem RSt.setNew{B:Nat}(h:RSt gp A n c ts s w)(hl:RLo gp A B){p:Addr}(hp:B≤p.block)(v:Value):RSt gp A n c ts s (w.setCell p v) :=
 h.belowB hl ((Below.refl B w).setCell hp v)
end
section
structure RJn(gp:Nat)(A:Option Addr)(n c:Nat)(ts:List Lx.Tok)(w0:World)(g:Nat)(p:Int)(l:List Ex)(sl:List (Option Addr × Nat))(v:Value)(q:RS)(w:World):Prop where
 st:RSt gp A n c ts q w
 wr:Wr [gp] w0 w
 z:Blk w w0.heap.size 39 zEc
 e:Blk w g 39 [.string k_join,.int .i64 0,.string zs,.int .i64 p,v]
 own:w.ownsRow (w0.heap.size+1) 39 5 v l.length (zipC exC l sl)
 nl:sl.length=l.length
 ob:∀k,v.ownBlock=some k→k≠g
 ar:∀(i:Nat) (e:Ex) (a:Option Addr × Nat),l[i]? = some e→sl[i]? = some a→ArgsIn (Fj w0.heap.size g v) w a.1 e.args
 lt:w0.heap.size<g
 lo:RLo gp A w0.heap.size
section
variable{gp:Nat}{A:Option Addr}{n c:Nat}{ts:List Lx.Tok}{s q q':RS}{w w' w0:World}{g:Nat}{p:Int}{l:List Ex}{sl:List (Option Addr × Nat)}{v v':Value}{X:Ex}{y:Option Addr × Nat}
theorem RJn.call(h:RJn gp A n c ts w0 g p l sl v q w)(hs:RSt gp A n c ts q' w')(hW:Wr [gp] w w'):RJn gp A n c ts w0 g p l sl v q' w' :=
 ⟨hs,h.wr.trans hW,Blk.wrR h.z hW h.lo lr,Blk.wrR h.e hW (h.lo.mono (Nat.le_of_lt h.lt)) lr,
   za6 h.own (fun k hk hlt _=>hW.block k hlt (fun hm=>by have:=h.lo.all k hm;omega)),h.nl,h.ob,fun i e a h1 h2=>(h.ar i e a h1 h2).keep (zdk hW h.lo.all),h.lt,h.lo⟩
theorem RJn.fr(h:RJn gp A n c ts w0 g p l sl v q w){B:Nat}(hB:w.heap.size≤B){W:World}{B2:Option Addr}{es:List Ex}(ha:ArgsIn (Fr B) W B2 es):ArgsIn (Fj w0.heap.size g v) W B2 es :=
 ha.keep ⟨lr,fun _ _ _=>rfl,fun k hk _=>by
  have h1:=h.e.lt;have h2:=h.lt
  unfold Fr at hk
  refine⟨by omega,by omega,fun e=>?_⟩;have h3:=(h.own.lt k e).2
  omega⟩
theorem RJn.push(h:RJn gp A n c ts w0 g p l sl v q w)(hy:ArgsIn (Fj w0.heap.size g v) w y.1 X.args){w5:World}(hg:(w.alloc (.cells (exC X y).toArray 39)).grownBy w5 v.ownBlock)
 (ho:w5.ownsRow (w0.heap.size+1) 39 5 v' (l.length+1) (zipC exC l sl++exC X y)) (hat:v'.ownBlock=v.ownBlock∨v'.ownBlock=some (w.alloc (.cells (exC X y).toArray 39)).heap.size):
 RJn gp A n c ts w0 g p (l++[X]) (sl++[y]) v' q (w5.setCell ⟨g,4,none⟩ v'):=by
 have hlt:=h.lt;have hgl:=h.e.lt;have hobg:∀k,v.ownBlock=some k→w0.heap.size+1≤k:=fun k hk=>(h.own.lt k hk).1
 have hobl:∀k,v.ownBlock=some k→k<w.heap.size:=fun k hk=>(h.own.lt k hk).2
 have hsz:(w.alloc (.cells (exC X y).toArray 39)).heap.size=w.heap.size+1:=by simp
 have hsz5:(w.alloc (.cells (exC X y).toArray 39)).heap.size≤w5.heap.size:=hg.size;have hB5:Below (w0.heap.size+1) w w5:=((Below.refl _ w).alloc om _).grown hg om hobg;have hB6:Below (w0.heap.size+1) w (w5.setCell ⟨g,4,none⟩ v'):=hB5.setCell (by exact hlt) v'
 have hob':∀k,v'.ownBlock=some k→k≠g:=by
  intro k hk
  rcases hat with h1|h1
  · exact h.ob k (h1 ▸ hk)
  · rw[h1]at hk
    injection hk with hk
    omega
 have hK:Keep (Fj w0.heap.size g v) (Fj w0.heap.size g v') w (w5.setCell ⟨g,4,none⟩ v'):=by
  refine⟨hB6.size,fun k hk hkl=>?_,fun k hk hkl=>⟨hk.1,hk.2.1,fun e=>?_⟩⟩
  · rw[Below.heap_setCell w5 ⟨g,4,none⟩ v' k hk.2.1,hg.block k om hk.2.2.symm]
    exact Below.heap_alloc w _ k hkl
  · rcases hat with h1|h1
    · exact hk.2.2 (h1 ▸ e)
    · rw[h1]at e
      injection e with e
      omega
 refine⟨h.st.belowB (h.lo.mono (Nat.le_succ _)) hB6,h.wr.thenb (hB6.mono (Nat.le_succ _)),h.z.below hB6 (Nat.lt_succ_self _),?_,?_,by simp[h.nl],hob',?_,h.lt,h.lo⟩
 · exact(((h.e.alloc _).grown hg (fun e=>h.ob g e.symm rfl)).set_ 4 v')
 · rw[la9,zbo exC l sl X y h.nl]
   exact za6 ho (fun k hk hkl e=>Below.heap_setCell w5 ⟨g,4,none⟩ v' k (hob' k e))
 · intro i e a h1 h2
   by_cases hi:i<l.length
   · rw[ll9 hi]at h1
     rw[ll9 (by rw[h.nl];exact hi)]at h2;exact(h.ar i e a h1 h2).keep hK
   · have hi2:i=l.length:=by
      have:=(gi9.1 h1).1
      simp at this
      omega
     subst hi2;rw[ar9 lr,Nat.sub_self]at h1;rw[←h.nl,ar9 lr,Nat.sub_self]at h2
     simp at h1 h2
     subst h1;subst h2;exact hy.keep hK
theorem ArgsIn.rjn{w0:World}{p:Int}{l:List Ex}{sl:List (Option Addr × Nat)}{A1:Option Addr}{c1:Nat}(h:RJn gp A n c ts w0 g p l sl (.slice A1 l.length c1) q w):ArgsIn (Fx w0.heap.size g) w A1 l:=by
 refine .mk _ _ sl h.nl ⟨RdS.ofOwn3 h.own,fun hn ad e=>?_⟩ (fun i e a h1 h2=>(h.ar i e a h1 h2).keep ⟨lr,fun _ _ _=>rfl,fun k hk _=>⟨hk.1,hk.2.1⟩⟩);obtain⟨b,off,e2,hb,_⟩:=(RdS.ofOwn3 h.own).2 hn;subst e
 injection e2 with e2
 subst e2;exact⟨⟨(h.own.lt b rfl).1,h.ob b rfl⟩,zck h.own rfl⟩
end
end
section
structure RVi(gp:Nat)(A:Option Addr)(n c:Nat)(ts:List Lx.Tok)(w0:World)(l:List Rf)(v:Value)(q:RS)(w:World):Prop where
 st:RSt gp A n c ts q w
 wr:Wr [gp] w0 w
 own:w.ownsRow w0.heap.size 36 2 v l.length (l.flatMap rfC)
 lo:RLo gp A w0.heap.size
section
variable{gp:Nat}{A:Option Addr}{n c:Nat}{ts:List Lx.Tok}{s q q':RS}{w w' w0:World}{l:List Rf}{v v':Value}{X:Rf}
theorem RVi.call(h:RVi gp A n c ts w0 l v q w)(hs:RSt gp A n c ts q' w')(hW:Wr [gp] w w'):RVi gp A n c ts w0 l v q' w' :=
 ⟨hs,h.wr.trans hW,za6 h.own (fun k hk hlt _=>hW.block k hlt (fun hm=>by
  have h1:=h.lo.1;simp only[List.mem_cons,List.not_mem_nil,or_false]at hm
  omega)),h.lo⟩
theorem RVi.push(h:RVi gp A n c ts w0 l v q w){w5:World}(hg:(w.alloc (.cells (rfC X).toArray 36)).grownBy w5 v.ownBlock)
 (ho:w5.ownsRow w0.heap.size 36 2 v' (l.length+1) (l.flatMap rfC++rfC X)):RVi gp A n c ts w0 (l++[X]) v' q w5:=by
 have hB5:Below w0.heap.size w w5:=((Below.refl _ w).alloc h.wr.size _).grown hg (Nat.le_trans h.wr.size sy) (fun k hk=>(h.own.lt k hk).1);refine⟨h.st.belowB h.lo hB5,h.wr.thenb hB5,?_,h.lo⟩;rw[la9,List.flatMap_append]
 simpa using ho
theorem RVi.fin(h:RVi gp A n c ts w0 l v q w):∃A' c',v=.slice A' l.length c'∧RfsIn (Fr w0.heap.size) w A' l:=by
 obtain⟨A',c',rfl,hc⟩:=zcc h.own;refine⟨A',c',rfl,RdS.ofOwn3 h.own,fun hn ad e=>?_⟩;subst e;have h5:=h.own
 rcases h5.2 with ⟨h6,h0⟩|⟨g,cap,cur,hv,hb,_⟩
 · omega
 · injection hv with hA
   injection hA with hA
   subst hA;exact⟨hb,zck h5 rfl⟩
end
end
section
structure RLn(gp gt:Nat)(A:Option Addr)(n c:Nat)(ts:List Lx.Tok)(w0:World)(T:St)(p:StA)(q:RS)(w:World):Prop where
 st:RSt gp A n c ts q w
 wr:Wr [gp,gt] w0 w
 e:Blk w gt 42 (stC T p)
 ar:StIn (Fr w0.heap.size) w T p
 lo:RLo gp A gt
 lt:gt<w0.heap.size
section
variable{gp gt:Nat}{A:Option Addr}{n c:Nat}{ts:List Lx.Tok}{s q q':RS}{w w' w0:World}{T T':St}{p p':StA}
theorem RLn.call(h:RLn gp gt A n c ts w0 T p q w)(hs:RSt gp A n c ts q' w')(hW:Wr [gp] w w'):RLn gp gt A n c ts w0 T p q' w' :=
 ⟨hs,h.wr.trans (hW.mono (fun g hg=>by simp only[List.mem_cons,List.not_mem_nil,or_false]at hg ⊢;omega)),Blk.wrR h.e hW h.lo lr,
   h.ar.keepw hW (fun g hg=>by have:=h.lo.1;have:=h.lt;simp only[List.mem_cons,List.not_mem_nil,or_false]at hg;omega),h.lo,h.lt⟩
theorem RLn.put(h:RLn gp gt A n c ts w0 T p q w)(ho:Only w w' gt)(hb:Blk w' gt 42 (stC T' p'))(ha:StIn (Fr w0.heap.size) w T' p'):RLn gp gt A n c ts w0 T' p' q w' :=
 ⟨h.st.only h.lo lr ho,h.wr.trans (Wr.onlyg ho sy),hb,ha.keepw (Wr.onlyg (L:=[gt]) ho sy) (fun g hg=>by simp only[List.mem_cons,List.not_mem_nil,or_false]at hg;rw[hg];exact h.lt),h.lo,h.lt⟩
theorem RLn.one(h:RLn gp gt A n c ts w0 T p q w)(i:Nat)(v:Value)(hb:(stC T p).set i v=stC T' p')(ha:StIn (Fr w0.heap.size) w T' p'):RLn gp gt A n c ts w0 T' p' q (w.setCell ⟨gt,i,none⟩ v) :=
 h.put (Only.of_setCells w gt i [v]) (hb ▸ h.e.set_ i v) ha
theorem ArgsIn.rup(h:RLn gp gt A n c ts w0 T p q w){W:World}{B:Option Addr}{es:List Ex}(ha:ArgsIn (Fr w.heap.size) W B es):ArgsIn (Fr w0.heap.size) W B es:=ha.keep (zar h.wr.size)
theorem RfsIn.rup(h:RLn gp gt A n c ts w0 T p q w){W:World}{B:Option Addr}{l:List Rf}(ha:RfsIn (Fr w.heap.size) W B l):RfsIn (Fr w0.heap.size) W B l:=ha.keep (zar h.wr.size)
theorem RLn.al(h:RLn gp gt A n c ts w0 T p q w)(o:Obj):RLn gp gt A n c ts w0 T p q (w.alloc o):=h.call (h.st.alloc o) ((Wr.refl _ _).alloc o)
end
section
variable{gp gt:Nat}{A:Option Addr}{n c:Nat}{ts:List Lx.Tok}{s q q':RS}{w w' w'' w6:World}{T T':St}{p p':StA}
theorem Wr.newr(h1:Wr [gp] w w6)(h2:Wr [gp,gt] w6 w')(hg:w.heap.size≤gt):Wr [gp] w w' :=
 ⟨h2.os.trans h1.os,h2.tape.trans h1.tape,h2.output.trans h1.output,Nat.le_trans h1.size h2.size,fun k hk hne =>
  (h2.block k (Nat.lt_of_lt_of_le hk h1.size) (fun hm=>by simp only[List.mem_cons,List.not_mem_nil,or_false]at hm hne;omega)).trans (h1.block k hk hne)⟩
theorem RStE(hL:RLn gp gt A n c ts w6 T p q w')(h6:Wr [gp] w w6)(hgt:w.heap.size<gt)(hlo:RLo gp A w.heap.size)(ho:Only w' w'' w.heap.size):
 StIn (Fr w.heap.size) w'' T p∧RSt gp A n c ts q w''∧Wr [gp] w w'' :=
 ⟨(hL.ar.keep (zei (Wr.onlyg (L:=[w.heap.size]) ho sy) (fun g hg=>by simp only[List.mem_cons,List.not_mem_nil,or_false]at hg;have:=hL.lt;omega) lr)).keep (zar h6.size),
   hL.st.only hlo lr ho,⟨ho.grown.os.trans (Wr.newr h6 hL.wr (Nat.le_of_lt hgt)).os,ho.grown.tape.trans (Wr.newr h6 hL.wr (Nat.le_of_lt hgt)).tape,ho.grown.output.trans (Wr.newr h6 hL.wr (Nat.le_of_lt hgt)).output,Nat.le_trans (Wr.newr h6 hL.wr (Nat.le_of_lt hgt)).size ho.grown.size,fun k hk hne =>
    (ho.grown.block k (Nat.lt_of_lt_of_le hk (Wr.newr h6 hL.wr (Nat.le_of_lt hgt)).size) (fun e=>by injection e with e;omega)).trans ((Wr.newr h6 hL.wr (Nat.le_of_lt hgt)).block k hk hne)⟩⟩
theorem RLn.res(hL:RLn gp gt A n c ts w6 T p q w'){t:TypeId}{cs:List Value}(hb:Blk w6 w.heap.size t cs)(hgt:w.heap.size<gt)(hlo:RLo gp A w.heap.size):Blk w' w.heap.size t cs :=
 (hL.wr.block _ hb.lt (fun hm=>by have h1:=hlo.1;simp only[List.mem_cons,List.not_mem_nil,or_false]at hm;omega)).trans hb
end
end
section
structure RBd(gp:Nat)(A:Option Addr)(n c:Nat)(ts:List Lx.Tok)(w0:World)(l:List St)(sl:List StA)(v:Value)(q:RS)(w:World):Prop where
 st:RSt gp A n c ts q w
 wr:Wr [gp] w0 w
 own:w.ownsRow w0.heap.size 42 26 v l.length (zipC stC l sl)
 nl:sl.length=l.length
 ar:∀(i:Nat) (s:St) (p:StA),l[i]? = some s→sl[i]? = some p→StIn (Fv w0.heap.size v) w s p
 lo:RLo gp A w0.heap.size
section
variable{gp:Nat}{A:Option Addr}{n c:Nat}{ts:List Lx.Tok}{s q q':RS}{w w' w0:World}{l:List St}{sl:List StA}{v v':Value}{X:St}{y:StA}
theorem RBd.call(h:RBd gp A n c ts w0 l sl v q w)(hs:RSt gp A n c ts q' w')(hW:Wr [gp] w w'):RBd gp A n c ts w0 l sl v q' w' :=
 ⟨hs,h.wr.trans hW,za6 h.own (fun k hk hlt _=>hW.block k hlt (fun hm=>by have:=h.lo.nin k hm;omega)),h.nl,
   fun i s p h1 h2=>(h.ar i s p h1 h2).keep (hW.keep _ _ (fun k hk _ hm=>by have h5:=h.lo.nin k hm;have h6:=hk.1;omega) (fun _ h _=>h)),h.lo⟩
theorem RBd.fr(h:RBd gp A n c ts w0 l sl v q w){B:Nat}(hB:w.heap.size≤B){W:World}{T:St}{p:StA}(ha:StIn (Fr B) W T p):StIn (Fv w0.heap.size v) W T p :=
 ha.keep ⟨lr,fun _ _ _=>rfl,fun k hk _=>⟨by have:=h.wr.size;unfold Fr at hk;omega,fun e=>by have:=(h.own.lt k e).2;unfold Fr at hk;omega⟩⟩
theorem RBd.push(h:RBd gp A n c ts w0 l sl v q w)(hy:StIn (Fv w0.heap.size v) w X y){w5:World}(hg:(w.alloc (.cells (stC X y).toArray 42)).grownBy w5 v.ownBlock)
 (ho:w5.ownsRow w0.heap.size 42 26 v' (l.length+1) (zipC stC l sl++stC X y)) (hat:v'.ownBlock=v.ownBlock∨v'.ownBlock=some (w.alloc (.cells (stC X y).toArray 42)).heap.size):
 RBd gp A n c ts w0 (l++[X]) (sl++[y]) v' q w5:=by
 have hB5:Below w0.heap.size w w5:=((Below.refl _ w).alloc h.wr.size _).grown hg (Nat.le_trans h.wr.size sy) (fun k hk=>(h.own.lt k hk).1)
 have hK:Keep (Fv w0.heap.size v) (Fv w0.heap.size v') w w5:=by
  refine⟨hB5.size,fun k hk hkl=>?_,fun k hk hkl=>⟨hk.1,fun e=>?_⟩⟩
  · rw[hg.block k (by simp;omega) hk.2.symm]
    exact Below.heap_alloc w _ k hkl
  · rcases hat with h1|h1
    · exact hk.2 (h1 ▸ e)
    · rw[h1]at e
      injection e with e
      simp at e
      omega
 refine⟨h.st.belowB h.lo hB5,h.wr.thenb hB5,?_,by simp[h.nl],fun i s p h1 h2=>?_,h.lo⟩
 · rw[la9,zbo stC l sl X y h.nl]
   exact ho
 · rcases Nat.lt_or_ge i l.length with hi|hi
   · rw[ll9 hi]at h1
     rw[ll9 (by rw[h.nl];exact hi)]at h2;exact(h.ar i s p h1 h2).keep hK
   · have hi0:i=l.length:=by
      have:=(gi9.1 h1).1
      simp at this
      omega
     subst hi0
     simp at h1
     rw[←h.nl]at h2
     simp at h2
     subst h1 h2;exact hy.keep hK
theorem RBd.fin(h:RBd gp A n c ts w0 l sl v q w):∃A' c',v=.slice A' l.length c'∧BodyIn (Fr w0.heap.size) w A' l:=by
 obtain⟨A',c',rfl,hc⟩:=zcc h.own;have hK:Keep (Fv w0.heap.size (.slice A' l.length c')) (Fr w0.heap.size) w w:=⟨lr,fun _ _ _=>rfl,fun k hk _=>hk.1⟩;refine⟨A',c',rfl,.mk A' l sl h.nl ⟨RdS.ofOwn3 h.own,fun hn ad e=>?_⟩ (fun i s p h1 h2=>((h.ar i s p h1 h2).keep hK).1) (fun i s p h1 h2=>((h.ar i s p h1 h2).keep hK).2.1) (fun i s p h1 h2=>((h.ar i s p h1 h2).keep hK).2.2)⟩;subst e;have h5:=h.own
 rcases h5.2 with ⟨h6,h0⟩|⟨g,cap,cur,hv,hb,_⟩
 · omega
 · injection hv with hA
   injection hA with hA
   subst hA;exact⟨hb,zck h5 rfl⟩
end
end
section
structure RPc(gp gt:Nat)(A:Option Addr)(n c:Nat)(ts:List Lx.Tok)(w0:World)(T:Pl)(p:plA)(q:RS)(w:World):Prop where
 st:RSt gp A n c ts q w
 wr:Wr [gp] w0 w
 z:Blk w w0.heap.size 80 (plC zPl pl0)
 e:Blk w gt 80 (plC T p)
 ar:PlIn (Fx w0.heap.size gt) w T p
 lo:RLo gp A w0.heap.size
 gl:w0.heap.size<gt
section
variable{gp gt:Nat}{A:Option Addr}{n c:Nat}{ts:List Lx.Tok}{s q q':RS}{w w' w0:World}{T T':Pl}{p p':plA}
theorem RPc.call(h:RPc gp gt A n c ts w0 T p q w)(hs:RSt gp A n c ts q' w')(hW:Wr [gp] w w'):RPc gp gt A n c ts w0 T p q' w' :=
 ⟨hs,h.wr.trans hW,Blk.wrR h.z hW h.lo lr,Blk.wrR h.e hW h.lo (Nat.le_of_lt h.gl),h.ar.keep (zb6 hW h.lo.all),h.lo,h.gl⟩
theorem RPc.put(h:RPc gp gt A n c ts w0 T p q w)(ho:Only w w' gt)(hb:Blk w' gt 80 (plC T' p'))(ha:PlIn (Fx w0.heap.size gt) w T' p'):RPc gp gt A n c ts w0 T' p' q w' :=
 ⟨h.st.only (h.lo.mono (Nat.le_of_lt h.gl)) lr ho,Wr.newL h.wr (Wr.onlyg (L:=[gt]) ho sy) (fun g hg=>.inr (by simp at hg;have:=h.gl;omega)),ho.blk h.z (by have:=h.gl;omega),hb,
   ha.keep ((Wr.onlyg (L:=[gt]) ho sy).keep _ _ (fun k hk _ hm=>hk.2 (by simpa using hm)) (fun _ h _=>h)),h.lo,h.gl⟩
theorem RPc.fr(h:RPc gp gt A n c ts w0 T p q w){W:World}{B:Option Addr}{es:List Ex}(ha:ArgsIn (Fr w.heap.size) W B es):ArgsIn (Fx w0.heap.size gt) W B es :=
 ha.keep ⟨lr,fun _ _ _=>rfl,fun k hk _=>⟨by have:=h.e.lt;have:=h.gl;unfold Fr at hk;omega,by have:=h.e.lt;unfold Fr at hk;omega⟩⟩
theorem RPc.fin(h:RPc gp gt A n c ts w0 T p q w)(ho:Only w w' w0.heap.size):PlIn (Fr w0.heap.size) w' T p∧RSt gp A n c ts q w'∧Wr [gp] w0 w' :=
 ⟨(h.ar.keep ((Wr.onlyg (L:=[w0.heap.size]) ho sy).keep (Fx w0.heap.size gt) (Fx w0.heap.size gt) (fun k hk _ hm=>by simp only[List.mem_cons,List.not_mem_nil,or_false]at hm;have:=hk.1;omega) (fun _ h _=>h))).keep zbk,
   h.st.only h.lo lr ho,Wr.newL h.wr (Wr.onlyg (L:=[w0.heap.size]) ho sy) (fun g hg=>.inr (by simp at hg;omega))⟩
end
end
section
structure RDl(gp:Nat)(A:Option Addr)(n c:Nat)(ts:List Lx.Tok)(w0:World)(g:Nat)(K:ByteArray)(N:Rf)(l:List Pl)(sl:List plA)(v:Value)(q:RS)(w:World):Prop where
 st:RSt gp A n c ts q w
 wr:Wr [gp] w0 w
 z:Blk w w0.heap.size 45 (dcC zDc pl0)
 e:Blk w g 45 (dlC K N v)
 own:w.ownsRow (w0.heap.size+1) 80 12 v l.length (zipC plC l sl)
 nl:sl.length=l.length
 ob:∀k,v.ownBlock=some k→k≠g
 ar:∀(i:Nat) (e:Pl) (a:plA),l[i]? = some e→sl[i]? = some a→PlIn (Fj w0.heap.size g v) w e a
 lt:w0.heap.size<g
 lo:RLo gp A w0.heap.size
section
variable{gp:Nat}{A:Option Addr}{n c:Nat}{ts:List Lx.Tok}{s q q':RS}{w w' w0:World}{g:Nat}{K:ByteArray}{N:Rf}{l:List Pl}{sl:List plA}{v v':Value}{X:Pl}{y:plA}
theorem RDl.call(h:RDl gp A n c ts w0 g K N l sl v q w)(hs:RSt gp A n c ts q' w')(hW:Wr [gp] w w'):RDl gp A n c ts w0 g K N l sl v q' w' :=
 ⟨hs,h.wr.trans hW,Blk.wrR h.z hW h.lo lr,Blk.wrR h.e hW (h.lo.mono (Nat.le_of_lt h.lt)) lr,
   za6 h.own (fun k hk hlt _=>hW.block k hlt (fun hm=>by have:=h.lo.all k hm;omega)),h.nl,h.ob,fun i e a h1 h2=>(h.ar i e a h1 h2).keep (zdk hW h.lo.all),h.lt,h.lo⟩
theorem RDl.fr(h:RDl gp A n c ts w0 g K N l sl v q w){B:Nat}(hB:w.heap.size≤B){W:World}(ha:PlIn (Fr B) W X y):PlIn (Fj w0.heap.size g v) W X y :=
 ha.keep ⟨lr,fun _ _ _=>rfl,fun k hk _=>by
  have h1:=h.e.lt;have h2:=h.lt
  unfold Fr at hk
  refine⟨by omega,by omega,fun e=>?_⟩;have h3:=(h.own.lt k e).2
  omega⟩
theorem RDl.push(h:RDl gp A n c ts w0 g K N l sl v q w)(hy:PlIn (Fj w0.heap.size g v) w X y){w5:World}(hg:(w.alloc (.cells (plC X y).toArray 80)).grownBy w5 v.ownBlock)
 (ho:w5.ownsRow (w0.heap.size+1) 80 12 v' (l.length+1) (zipC plC l sl++plC X y)) (hat:v'.ownBlock=v.ownBlock∨v'.ownBlock=some (w.alloc (.cells (plC X y).toArray 80)).heap.size):
 RDl gp A n c ts w0 g K N (l++[X]) (sl++[y]) v' q (w5.setCell ⟨g,8,none⟩ v'):=by
 have hlt:=h.lt;have hgl:=h.e.lt;have hobg:∀k,v.ownBlock=some k→w0.heap.size+1≤k:=fun k hk=>(h.own.lt k hk).1
 have hobl:∀k,v.ownBlock=some k→k<w.heap.size:=fun k hk=>(h.own.lt k hk).2
 have hsz:(w.alloc (.cells (plC X y).toArray 80)).heap.size=w.heap.size+1:=by simp
 have hsz5:(w.alloc (.cells (plC X y).toArray 80)).heap.size≤w5.heap.size:=hg.size;have hB5:Below (w0.heap.size+1) w w5:=((Below.refl _ w).alloc om _).grown hg om hobg;have hB6:Below (w0.heap.size+1) w (w5.setCell ⟨g,8,none⟩ v'):=hB5.setCell (by exact hlt) v'
 have hob':∀k,v'.ownBlock=some k→k≠g:=by
  intro k hk
  rcases hat with h1|h1
  · exact h.ob k (h1 ▸ hk)
  · rw[h1]at hk
    injection hk with hk
    omega
 have hK:Keep (Fj w0.heap.size g v) (Fj w0.heap.size g v') w (w5.setCell ⟨g,8,none⟩ v'):=by
  refine⟨hB6.size,fun k hk hkl=>?_,fun k hk hkl=>⟨hk.1,hk.2.1,fun e=>?_⟩⟩
  · rw[Below.heap_setCell w5 ⟨g,8,none⟩ v' k hk.2.1,hg.block k om hk.2.2.symm]
    exact Below.heap_alloc w _ k hkl
  · rcases hat with h1|h1
    · exact hk.2.2 (h1 ▸ e)
    · rw[h1]at e
      injection e with e
      omega
 refine⟨h.st.belowB (h.lo.mono (Nat.le_succ _)) hB6,h.wr.thenb (hB6.mono (Nat.le_succ _)),h.z.below hB6 (Nat.lt_succ_self _),?_,?_,by simp[h.nl],hob',?_,h.lt,h.lo⟩
 · exact(((h.e.alloc _).grown hg (fun e=>h.ob g e.symm rfl)).set_ 8 v')
 · rw[la9,zbo plC l sl X y h.nl]
   exact za6 ho (fun k hk hkl e=>Below.heap_setCell w5 ⟨g,8,none⟩ v' k (hob' k e))
 · intro i e a h1 h2
   by_cases hi:i<l.length
   · rw[ll9 hi]at h1
     rw[ll9 (by rw[h.nl];exact hi)]at h2;exact(h.ar i e a h1 h2).keep hK
   · have hi2:i=l.length:=by
      have:=(gi9.1 h1).1
      simp at this
      omega
     subst hi2;rw[ar9 lr,Nat.sub_self]at h1;rw[←h.nl,ar9 lr,Nat.sub_self]at h2
     simp at h1 h2
     subst h1 h2;exact hy.keep hK
theorem RDl.fin{A1:Option Addr}{c1:Nat}(h:RDl gp A n c ts w0 g K N l sl (.slice A1 l.length c1) q w)(ho:Only w w' w0.heap.size):DcIn (Fr w0.heap.size) w' ⟨K,N,zE,l⟩ ((none,0),(A1,c1))∧RSt gp A n c ts q w'∧Wr [gp] w0 w':=by
 have hK:Keep (Fj w0.heap.size g (.slice A1 l.length c1)) (Fr w0.heap.size) w w':=(Wr.onlyg (L:=[w0.heap.size]) ho sy).keep _ _ (fun k hk _ hm=>by simp only[List.mem_cons,List.not_mem_nil,or_false]at hm;have:=hk.1;omega) (fun k hk _=>Nat.le_of_lt hk.1)
 have hr:RdF (fun k=>w0.heap.size<k) 12 w A1 l.length (zipC plC l sl):=⟨RdS.ofOwn3 h.own,fun hn ad e=>by
  obtain⟨b,off,e2,hb,_⟩:=(RdS.ofOwn3 h.own).2 hn;subst e
  injection e2 with e2
  subst e2
  exact⟨(h.own.lt b rfl).1,zck h.own rfl⟩⟩
 refine⟨⟨ArgsIn.nil _ _ _,sl,h.nl,hr.keep ((Wr.onlyg (L:=[w0.heap.size]) ho sy).keep (fun k=>w0.heap.size<k) (Fr w0.heap.size) (fun k hk _ hm=>by simp only[List.mem_cons,List.not_mem_nil,or_false]at hm;omega) (fun k hk _=>Nat.le_of_lt hk)),fun i s p h1 h2=>(h.ar i s p h1 h2).keep hK⟩,h.st.only h.lo lr ho,Wr.newL h.wr (Wr.onlyg (L:=[w0.heap.size]) ho sy) (fun g hg=>.inr (by simp at hg;omega))⟩
end
end
section
structure RDe(gp gt:Nat)(A:Option Addr)(n c:Nat)(ts:List Lx.Tok)(w0:World)(T:Dc)(p:plA)(q:RS)(w:World):Prop where
 st:RSt gp A n c ts q w
 wr:Wr [gp] w0 w
 z:Blk w w0.heap.size 45 (dcC zDc pl0)
 e:Blk w gt 45 (dcC T p)
 ar:DcIn (Fx w0.heap.size gt) w T p
 lo:RLo gp A w0.heap.size
 gl:w0.heap.size<gt
section
variable{gp gt:Nat}{A:Option Addr}{n c:Nat}{ts:List Lx.Tok}{s q q':RS}{w w' w0:World}{T T':Dc}{p p':plA}
theorem RDe.call(h:RDe gp gt A n c ts w0 T p q w)(hs:RSt gp A n c ts q' w')(hW:Wr [gp] w w'):RDe gp gt A n c ts w0 T p q' w' :=
 ⟨hs,h.wr.trans hW,Blk.wrR h.z hW h.lo lr,Blk.wrR h.e hW h.lo (Nat.le_of_lt h.gl),h.ar.keep (zb6 hW h.lo.all),h.lo,h.gl⟩
theorem RDe.put(h:RDe gp gt A n c ts w0 T p q w)(ho:Only w w' gt)(hb:Blk w' gt 45 (dcC T' p'))(ha:DcIn (Fx w0.heap.size gt) w T' p'):RDe gp gt A n c ts w0 T' p' q w' :=
 ⟨h.st.only (h.lo.mono (Nat.le_of_lt h.gl)) lr ho,Wr.newL h.wr (Wr.onlyg (L:=[gt]) ho sy) (fun g hg=>.inr (by simp at hg;have:=h.gl;omega)),ho.blk h.z (by have:=h.gl;omega),hb,
   ha.keep ((Wr.onlyg (L:=[gt]) ho sy).keep _ _ (fun k hk _ hm=>hk.2 (by simpa using hm)) (fun _ h _=>h)),h.lo,h.gl⟩
theorem RDe.fr(h:RDe gp gt A n c ts w0 T p q w){W:World}{B:Option Addr}{es:List Ex}(ha:ArgsIn (Fr w.heap.size) W B es):ArgsIn (Fx w0.heap.size gt) W B es :=
 ha.keep ⟨lr,fun _ _ _=>rfl,fun k hk _=>⟨by have:=h.e.lt;have:=h.gl;unfold Fr at hk;omega,by have:=h.e.lt;unfold Fr at hk;omega⟩⟩
theorem RDe.fin(h:RDe gp gt A n c ts w0 T p q w)(ho:Only w w' w0.heap.size):DcIn (Fr w0.heap.size) w' T p∧RSt gp A n c ts q w'∧Wr [gp] w0 w' :=
 ⟨(h.ar.keep ((Wr.onlyg (L:=[w0.heap.size]) ho sy).keep (Fx w0.heap.size gt) (Fx w0.heap.size gt) (fun k hk _ hm=>by simp only[List.mem_cons,List.not_mem_nil,or_false]at hm;have:=hk.1;omega) (fun _ h _=>h))).keep zbk,
   h.st.only h.lo lr ho,Wr.newL h.wr (Wr.onlyg (L:=[w0.heap.size]) ho sy) (fun g hg=>.inr (by simp at hg;omega))⟩
end
end
section
structure RDp(gp G:Nat)(A:Option Addr)(n c:Nat)(ts:List Lx.Tok)(w0:World)(l:List Dc)(sl:List plA)(v:Value)(q:RS)(w:World):Prop where
 st:RSt gp A n c ts q w
 wr:Wr [gp,G] w0 w
 e:Blk w G 26 [v,.slice none 0 0]
 own:w.ownsRow w0.heap.size 45 9 v l.length (zipC dcC l sl)
 nl:sl.length=l.length
 ar:∀(i:Nat) (s:Dc) (p:plA),l[i]? = some s→sl[i]? = some p→DcIn (Fv w0.heap.size v) w s p
 lo:RLo gp A G
 lt:G<w0.heap.size
section
variable{gp G:Nat}{A:Option Addr}{n c:Nat}{ts:List Lx.Tok}{s q q':RS}{w w' w0:World}{l:List Dc}{sl:List plA}{v v':Value}{X:Dc}{y:plA}
theorem RDp.nin(h:RDp gp G A n c ts w0 l sl v q w):∀x∈[gp,G],x<w0.heap.size:=by
 intro x hx;have h1:=h.lo.1;have h3:=h.lt;simp only[List.mem_cons,List.not_mem_nil,or_false]at hx;omega
theorem RDp.call(h:RDp gp G A n c ts w0 l sl v q w)(hs:RSt gp A n c ts q' w')(hW:Wr [gp] w w'):RDp gp G A n c ts w0 l sl v q' w':=by
 have hW3:Wr [gp,G] w w':=hW.mono (fun g hg=>by simp only[List.mem_cons,List.not_mem_nil,or_false]at hg ⊢;omega)
 exact ⟨hs,h.wr.trans hW3,Blk.wrR h.e hW h.lo lr,za6 h.own (fun k hk hlt _=>hW3.block k hlt (fun hm=>by have:=h.nin k hm;omega)),h.nl,
   fun i s p h1 h2=>(h.ar i s p h1 h2).keep (hW3.keep _ _ (fun k hk _ hm=>by have h5:=h.nin k hm;have h6:=hk.1;omega) (fun _ h _=>h)),h.lo,h.lt⟩
theorem RDp.fr(h:RDp gp G A n c ts w0 l sl v q w){B:Nat}(hB:w.heap.size≤B){W:World}{T:Dc}{p:plA}(ha:DcIn (Fr B) W T p):DcIn (Fv w0.heap.size v) W T p :=
 ha.keep ⟨lr,fun _ _ _=>rfl,fun k hk _=>⟨by have:=h.wr.size;unfold Fr at hk;omega,fun e=>by have:=(h.own.lt k e).2;unfold Fr at hk;omega⟩⟩
theorem RDp.push(h:RDp gp G A n c ts w0 l sl v q w)(hy:DcIn (Fv w0.heap.size v) w X y){w5:World}(hg:(w.alloc (.cells (dcC X y).toArray 45)).grownBy w5 v.ownBlock)
 (ho:w5.ownsRow w0.heap.size 45 9 v' (l.length+1) (zipC dcC l sl++dcC X y)) (hat:v'.ownBlock=v.ownBlock∨v'.ownBlock=some (w.alloc (.cells (dcC X y).toArray 45)).heap.size):
 RDp gp G A n c ts w0 (l++[X]) (sl++[y]) v' q (w5.setCell ⟨G,0,none⟩ v'):=by
 have hlt:=h.lt;have hobl:∀k,v.ownBlock=some k→w0.heap.size≤k∧k<w.heap.size:=fun k hk=>h.own.lt k hk
 have hsz:(w.alloc (.cells (dcC X y).toArray 45)).heap.size=w.heap.size+1:=by simp
 have hB5:Below w0.heap.size w w5:=((Below.refl _ w).alloc h.wr.size _).grown hg (Nat.le_trans h.wr.size sy) (fun k hk=>(h.own.lt k hk).1);have hW5:Wr [gp,G] w0 w5:=h.wr.thenb hB5
 have hob':∀k,v'.ownBlock=some k→w0.heap.size≤k:=by
  intro k hk
  rcases hat with h1|h1
  · exact(hobl k (h1 ▸ hk)).1
  · rw[h1]at hk
    injection hk with hk
    have:=h.wr.size;omega
 have hK:Keep (Fv w0.heap.size v) (Fv w0.heap.size v') w (w5.setCell ⟨G,0,none⟩ v'):=by
  refine⟨Nat.le_trans hB5.size (by simp[World.setCell]),fun k hk hkl=>?_,fun k hk hkl=>⟨hk.1,fun e=>?_⟩⟩
  · rw[Below.heap_setCell w5 ⟨G,0,none⟩ v' k (by have:=hk.1;show k≠G;omega),hg.block k om hk.2.symm]
    exact Below.heap_alloc w _ k hkl
  · rcases hat with h1|h1
    · exact hk.2 (h1 ▸ e)
    · rw[h1]at e
      injection e with e
      omega
 refine⟨(h.st.belowB (h.lo.mono (Nat.le_of_lt hlt)) hB5).setNew h.lo (p:=⟨G,0,none⟩) lr _,hW5.setCell sy _,?_,?_,by simp[h.nl],?_,h.lo,h.lt⟩
 · exact((h.e.alloc _).grown hg (fun e=>by have:=(hobl G e.symm).1;omega)).set_ 0 v'
 · rw[la9,zbo dcC l sl X y h.nl]
   exact za6 ho (fun k hk hkl e=>Below.heap_setCell w5 ⟨G,0,none⟩ v' k (by have:=hob' k e;show k≠G;omega))
 · intro i s p h1 h2
   rcases Nat.lt_or_ge i l.length with hi|hi
   · rw[ll9 hi]at h1
     rw[ll9 (by rw[h.nl];exact hi)]at h2;exact(h.ar i s p h1 h2).keep hK
   · have hi0:i=l.length:=by
      have:=(gi9.1 h1).1
      simp at this
      omega
     subst hi0
     simp at h1
     rw[←h.nl]at h2
     simp at h2
     subst h1 h2;exact hy.keep hK
theorem RDp.fin(h:RDp gp G A n c ts w0 l sl v q w):∃A' c',v=.slice A' l.length c'∧DcsIn (Fr w0.heap.size) w A' l:=by
 obtain⟨A',c',rfl,hc⟩:=zcc h.own;have hK:Keep (Fv w0.heap.size (.slice A' l.length c')) (Fr w0.heap.size) w w:=⟨lr,fun _ _ _=>rfl,fun k hk _=>hk.1⟩;refine⟨A',c',rfl,sl,h.nl,⟨RdS.ofOwn3 h.own,fun hn ad e=>?_⟩,fun i s p h1 h2=>(h.ar i s p h1 h2).keep hK⟩;subst e;have h5:=h.own
 rcases h5.2 with ⟨h6,h0⟩|⟨g,cap,cur,hv,hb,_⟩
 · omega
 · injection hv with hA
   injection hA with hA
   subst hA;exact⟨hb,zck h5 rfl⟩
end
end
end
end Go.Proofs.YtafjkbbiaopemaaGreatDoor.Tr
