/- Part of the proof. -/
import Derived.Test.YtadopcjppijgiaaGreatSkp21
import Derived.Test.YtadopcjppijgiaaGreatSkp27
set_option linter.all false
set_option maxRecDepth 100000
set_option maxHeartbeats 0
namespace Go.Proofs.YtadopcjppijgiaaGreat
open Go.RowKit
section
attribute [local go_sem ↓] zc3
theorem zy0(gl:Nat)(t:TypeId)(x1 x2 z2 x3 z3:Nat)(w:World)(h:Blk w gl t (lcs x1 ⟨x2,z2,x3,z3⟩)):
 Calls Tryz.prog 96 #[.pointer (some ⟨gl,0,none⟩)] w fun e w'=>e=.returned (.tuple #[])∧Blk w' gl t (lcs x1 ⟨x3,z3,x2,z2⟩)∧Wrote gl w w':=by
 have HL:=qh h;have r:=qh (Wrote.refl w gl);clear h
 go_enter Tryz.func96, Tryz.ntmps96
 go_wp2;refine zcf kr 22 (fun w'=>Blk w' gl t (lcs x1 ⟨x2,z2,x3,z3⟩)) ?_;obtain⟨V,hV⟩:=ex9 ({ w with drawn:=w.drawn+1 });rw[←hV];have hT:Blk V gl t (lcs x1 ⟨x2,z2,x3,z3⟩):=hV ▸ HL.o.drew;have hR:Wrote gl w V:=hV ▸ r.o.drew;clear hV;refine AnyK.pure 0 (v:=.pointer (some ⟨gl,0,none⟩)) rfl kr (fun _ _ _ h=>h) rfl (fun _=>kr) (fun _=>hT) ?_;refine AnyK.pure 1 (v:=.pointer (some ⟨gl,0,none⟩)) rfl kr (fun _ _ _ h=>h) rfl (fun _=>kr) (fun _=>hT) ?_;refine AnyK.pure 2 (v:=.pointer (some ⟨gl,0,none⟩)) rfl kr (fun _ _ _ h=>h) rfl (fun _=>kr) (fun _=>hT) ?_;refine AnyK.pure 3 (v:=.pointer (some ⟨gl,0,none⟩)) rfl kr (fun _ _ _ h=>h) rfl (fun _=>kr) (fun _=>hT) ?_;refine AnyK.pure 4 (v:=.pointer (some ⟨gl,0,none⟩)) rfl kr (fun _ _ _ h=>h) rfl (fun _=>kr) (fun _=>hT) ?_;refine AnyK.pure 5 (v:=.pointer (some ⟨gl,0,none⟩)) rfl kr (fun _ _ _ h=>h) rfl (fun _=>kr) (fun _=>hT) ?_;refine AnyK.pure 6 (v:=.pointer (some ⟨gl,12,none⟩)) rfl kr (fun _ _ _ h=>h) rfl (fun _=>kr) (fun _=>hT) ?_;refine AnyK.load 7 (v:=.agg (elc x3).toArray) rfl kr kr kr (fun _ _ _ h=>h) rfl (fun w' hw'=>zaf (x:=.tmp 8) rr kr (zcy hw' 12 x3 rfl)) hT ?_;refine AnyK.pure 8 (v:=.pointer (some ⟨gl,0,none⟩)) rfl kr (fun _ _ _ h=>h) rfl (fun _=>kr) (fun _=>hT) ?_;refine AnyK.pure 9 (v:=.pointer (some ⟨gl,0,none⟩)) rfl kr (fun _ _ _ h=>h) rfl (fun _=>kr) (fun _=>hT) ?_;refine AnyK.pure 10 (v:=.pointer (some ⟨gl,16,none⟩)) rfl kr (fun _ _ _ h=>h) rfl (fun _=>kr) (fun _=>hT) ?_;refine AnyK.load 11 (v:=.agg (elc z3).toArray) rfl kr kr kr (fun _ _ _ h=>h) rfl (fun w' hw'=>zaf (x:=.tmp 12) rr kr (zcy hw' 16 z3 rfl)) hT ?_;refine AnyK.pure 12 (v:=.pointer (some ⟨gl,0,none⟩)) rfl kr (fun _ _ _ h=>h) rfl (fun _=>kr) (fun _=>hT) ?_;refine AnyK.pure 13 (v:=.pointer (some ⟨gl,0,none⟩)) rfl kr (fun _ _ _ h=>h) rfl (fun _=>kr) (fun _=>hT) ?_;refine AnyK.pure 14 (v:=.pointer (some ⟨gl,4,none⟩)) rfl kr (fun _ _ _ h=>h) rfl (fun _=>kr) (fun _=>hT) ?_;refine AnyK.load 15 (v:=.agg (elc x2).toArray) rfl kr kr kr (fun _ _ _ h=>h) rfl (fun w' hw'=>zaf (x:=.tmp 16) rr kr (zcy hw' 4 x2 rfl)) hT ?_;refine AnyK.pure 16 (v:=.pointer (some ⟨gl,0,none⟩)) rfl kr (fun _ _ _ h=>h) rfl (fun _=>kr) (fun _=>hT) ?_;refine AnyK.pure 17 (v:=.pointer (some ⟨gl,0,none⟩)) rfl kr (fun _ _ _ h=>h) rfl (fun _=>kr) (fun _=>hT) ?_;refine AnyK.pure 18 (v:=.pointer (some ⟨gl,8,none⟩)) rfl kr (fun _ _ _ h=>h) rfl (fun _=>kr) (fun _=>hT) ?_;refine AnyK.load 19 (v:=.agg (elc z2).toArray) rfl kr kr kr (fun _ _ _ h=>h) rfl (fun w' hw'=>zaf (x:=.tmp 20) rr kr (zcy hw' 8 z2 rfl)) hT ?_;refine AnyK.pure 20 (v:=.pointer (some ⟨gl,0,none⟩)) rfl kr (fun _ _ _ h=>h) rfl (fun _=>kr) (fun _=>hT) ?_;refine AnyK.pure 21 (v:=.pointer (some ⟨gl,4,none⟩)) rfl kr (fun _ _ _ h=>h) rfl (fun _=>kr) (fun _=>hT) ?_;refine AnyK.storeAt 22 gl 4 (elc x3) t (lcs x1 ⟨x2,z2,x3,z3⟩) (lcs x1 ⟨x3,z2,x3,z3⟩) rr rfl rfl rr kr kr kr hT (by exact hdEl) (za3 _) (by simp[lcs,elc,l4]) rr (fun _ _ _ h=>(by cases h)) ?_;intro V0 E A;have hR:=hR.only A;refine AnyK.pure 23 (v:=.pointer (some ⟨gl,0,none⟩)) rfl kr (fun _ _ _ h=>h) rfl (fun _=>kr) (fun h=>(by cases h)) ?_;refine AnyK.pure 24 (v:=.pointer (some ⟨gl,8,none⟩)) rfl kr (fun _ _ _ h=>h) rfl (fun _=>kr) (fun h=>(by cases h)) ?_;refine AnyK.storeAt 25 gl 8 (elc z3) t (lcs x1 ⟨x3,z2,x3,z3⟩) (lcs x1 ⟨x3,z3,x3,z3⟩) rr rfl rfl rr kr kr kr E (by exact hdEl) (za3 _) (by simp[lcs,elc,l4]) rr (fun _ _ _ h=>(by cases h)) ?_;intro V1 J G;have hR:=hR.only G;refine AnyK.pure 26 (v:=.pointer (some ⟨gl,0,none⟩)) rfl kr (fun _ _ _ h=>h) rfl (fun _=>kr) (fun h=>(by cases h)) ?_;refine AnyK.pure 27 (v:=.pointer (some ⟨gl,12,none⟩)) rfl kr (fun _ _ _ h=>h) rfl (fun _=>kr) (fun h=>(by cases h)) ?_;refine AnyK.storeAt 28 gl 12 (elc x2) t (lcs x1 ⟨x3,z3,x3,z3⟩) (lcs x1 ⟨x3,z3,x2,z3⟩) rr rfl rfl rr kr kr kr J (by exact hdEl) (za3 _) (by simp[lcs,elc,l4]) rr (fun _ _ _ h=>(by cases h)) ?_;intro V2 I M;have hR:=hR.only M;refine AnyK.pure 29 (v:=.pointer (some ⟨gl,0,none⟩)) rfl kr (fun _ _ _ h=>h) rfl (fun _=>kr) (fun h=>(by cases h)) ?_;refine AnyK.pure 30 (v:=.pointer (some ⟨gl,16,none⟩)) rfl kr (fun _ _ _ h=>h) rfl (fun _=>kr) (fun h=>(by cases h)) ?_;refine AnyK.storeAt 31 gl 16 (elc z2) t (lcs x1 ⟨x3,z3,x2,z3⟩) (lcs x1 ⟨x3,z3,x2,z2⟩) rr rfl rfl rr kr kr kr I (by exact hdEl) (za3 _) (by simp[lcs,elc,l4]) rr (fun _ _ _ h=>(by cases h)) ?_;intro V3 U D;have hR:=hR.only D;refine AnyK.done kr ?_;go_wp2
 go_end0
 exact⟨rfl,U,hR⟩
end
section
theorem zzc(x y:Value):binOp .eql 27 x y=eqAt 27 x y:=rfl
theorem eq32(a b:List UInt8)(ha:a.length=32)(hb:b.length=32)(w:World):(eqAt 27 (.agg (u8s a).toArray) (.agg (u8s b).toArray)).run Tryz.prog w=.ok (.bool (decide (a=b))) w:=by
 obtain⟨i,hi⟩:∃i,Tryz.prog.info? 5 = some i:=by
  have h:(Tryz.prog.info? 5).isSome=true:=by kernel_rfl
  exact Option.isSome_iff_exists.1 h
 exact zoq Tryz.underlying27 hi kr kr Tryz.underlying5 a b ha hb w
theorem zvf{n:Nat}(h:n<115792089237316195423570985008687907853269984665640564039457584007913129639936):leB n=List.replicate 32 0 ↔ n=0:=by
 constructor
 · intro e
   have h1:=zsv h;rw[e]at h1;have h2:leN (List.replicate 32 0)=0:=by rw[leN,List.map_replicate];exact zhm 256 32
   omega
 · rintro rfl
   rfl
theorem lex_s(gl:Nat)(t:TypeId)(x1:Nat)(s:LS)(w:World)(h:Blk w gl t (lcs x1 s)):
 Calls Tryz.prog 96 #[.pointer (some ⟨gl,0,none⟩)] w fun e w'=>e=.returned (.tuple #[])∧Blk w' gl t (lcs x1 s.swap)∧Wrote gl w w':=zy0 gl t x1 s.x2 s.z2 s.x3 s.z3 w h
theorem lst_s(gl:Nat)(t:TypeId)(x1:Nat)(s:LS)(w:World)(hx:x1<pr)(hs:s.Ok)(h:Blk w gl t (lcs x1 s)):
 Calls Tryz.prog 97 #[.pointer (some ⟨gl,0,none⟩)] w fun e w'=>e=.returned (.tuple #[])∧Blk w' gl t (lcs x1 (s.step x1))∧Wrote gl w w':=zsn gl t x1 s.x2 s.z2 s.x3 s.z3 w hx hs.1 hs.2.1 hs.2.2.1 hs.2.2.2 h
theorem zzk(a b:Nat)(w:World):(Instr.build 178 [(0,.agg (elc a).toArray),(1,.agg (elc b).toArray)].toArray).run Tryz.prog w=.ok (.agg (elc a++elc b).toArray) w:=by kernel_rfl
noncomputable def mB(k u:List UInt8):List UInt8:=if multN k u=0 then List.replicate 32 0 else leB (multN k u)
noncomputable def mE(k u:List UInt8):Nat:=if multN k u=0 then 5 else 0
def o32:List Value:=u8s (List.replicate 32 0)
def o20:List Value:=lcs 0 ⟨0,0,0,0⟩
theorem zi3{f:Flt}{F:List (Flt × Option Nat)}(h:F.map (·.1)=[f]):∃s,F=[(f,s)]:=by
 rcases F with _|⟨⟨a,s1⟩,_|⟨b,r⟩⟩
 · cases h
 · simp only[List.map_cons,List.map_nil,List.cons.injEq]at h
   obtain⟨rfl,_⟩:=h;exact⟨s1,rfl⟩
 · simp at h
theorem zjz{f:Flt}{F:List (Flt × Option Nat)}(h:F.map (·.1)=[f])(h0:leftN F=0):∃g,F=[(f,some g)]:=by
 obtain⟨s1,rfl⟩:=zi3 h
 rcases s1 with _|g
 · simp[leftN]at h0
 exact⟨g,rfl⟩
theorem zy2(x:Nat)(s:LS):∀v∈lcs x s,v.oneCell'=true:=by
 intro v hv;simp only[lcs,List.mem_append]at hv
 rcases hv with (((h|h)| h)| h)| h <;> exact za3 _ v h
theorem hdLad(x:Nat)(s:LS):(Tryz.prog.info? 176).map (·.size)=some (lcs x s).length:=by
 rw[show(lcs x s).length=20 by simp[lcs,elc,l4]]
 kernel_rfl
attribute [local go_sem ↓] zb0 zc3 zzc
theorem zj5(A B:Option Addr)(c d:Nat)(ks us:List UInt8)(w:World)(hk:Rd w A 32 (u8s ks))(hu:Rd w B 32 (u8s us)):
 Calls Tryz.prog 71 #[.slice A 32 c,.slice B 32 d] w fun e w'=>e=.returned (.tuple #[.agg (u8s (mB ks us)).toArray,.int .i64 (mE ks us:Int)])∧Below w.heap.size w w':=by
 have HK:=qh hk;have HU:=qh hu;have a2:=qh hk.len;have i7:=qh hu.len;have g9:Hid (Blk (w.alloc (.cells o32.toArray 27)) w.heap.size 27 o32):=Blk.new w _ _;have e4:Hid (Below w.heap.size w (w.alloc (.cells o32.toArray 27))):=(Below.refl _ w).alloc lr _;have HC:=qh (fun W (h:Rd W A 32 (u8s ks))=>ztd A 32 c ks W h rfl);have c8:=qh (fun W (h:Rd W B 32 (u8s us))=>zrq B 32 d us W h rfl);have d9:(clampB ks).length=32:=by rw[zd3,a2.o]
 obtain⟨N,hN⟩:=ex9 (clampB ks);obtain⟨X,hX⟩:=ex9 (readN us);have d5:Hid (X<pr):=(by show X<pr;rw[hX];exact zdc _);have e0:Hid (multN ks us=fmul (ladT X (kbit N) 255).x2 ((ladT X (kbit N) 255).z2^pE%pr)):=(by show _=_;rw[hN,hX];rfl);rw[←hN]at HC d9;rw[←hX]at c8;have d6:=qh d9;clear hk hu d9 hN hX
 go_enter Tryz.func71, Tryz.ntmps71
 go_wp2_with (first
  | (go_at_call 95;(with_reducible refine(HC.o _ (by first|exact HK.o.alloc _|exact HK.o)).mono ?_);rintro e w1 ⟨rfl,hB⟩;have h1:=qbl g9 hB;have c0:=qtr e4 hB;clear hB)
  | (refine zab rfl 27 (.tmp 6) (.tmp 16) rfl w1.heap.size (u8s N) rr rr 27 o32 (by exact Blk.new' rfl rfl) (by rw[zaa,d6.o];exact hd32) (zac _) (by rw[zaa,d6.o];rfl) ?_;intro w2 f1 d4;have h5:=qh f1;have h6:=qal d4 h1 (by have:=h1.o.lt;omega);have g8:=qh (d4.below (c0.o.alloc c0.o.size _) c0.o.size (by have:=c0.o.size;simp;omega));clear f1 d4)
  | (go_at_call 72;(with_reducible refine(c8.o _ (by exact HU.o.below g8.o)).mono ?_);rintro e w3 ⟨rfl,hB⟩;have g3:=qbl h6 hB;have e9:=qbl h5 hB;have b6:=qtr g8 hB;clear hB)
  | (refine zab rfl 146 (.tmp 8) (.tmp 25) rfl w3.heap.size (elc X) rr rr 146 (l4 0 0 0 0) (by exact Blk.new' rfl rfl) (by exact hdEl) (za3 _) rfl ?_;intro w4 h2 c1;have a7:=qh h2;have b1:=qal c1 g3 (by have:=g3.o.lt;omega);have c6:=qal c1 e9 (by have:=e9.o.lt;omega);have f6:=qh (c1.below (b6.o.alloc b6.o.size _) b6.o.size (by have:=b6.o.size;simp;omega));clear h2 c1))
 have c3:Hid (Below w4.heap.size w4 { w4 with drawn:=w4.drawn+1 }):=(Below.refl _ w4).drew;refine kgo kr 6 (fun w'=>Below w4.heap.size w4 w') c3.o (fun _ _ _ _ _ h=>h) ?_;refine kl 0 (.agg (elc X).toArray) rfl kr (fun w' hw'=>zaf (x:=.tmp 8) rr kr (zbj (a7.o.below hw' a7.o.lt))) ?_;refine kl 2 (.agg (elc X).toArray) rfl kr (fun w' hw'=>zaf (x:=.tmp 8) rr kr (zbj (a7.o.below hw' a7.o.lt))) ?_;intro q8 q9;clear q8 q9;refine AnyG.start w4.heap.size [⟨5,9,176,o20,fun g=>.pointer (some ⟨g,0,none⟩)⟩] (fun W=>Below w4.heap.size w4 W) 4 rfl c3.o ?_
 have a6:Hid (∀(W:World) (b:Act) (o:Oper),o.op=.alloc 176→(execOp b.eval o).run Tryz.prog W=.ok (.value (.pointer (some ⟨W.heap.size,0,none⟩))) (W.alloc (.cells o20.toArray 176))):=fun W b o ho=>by
  unfold execOp
  rw[ho]
  kernel_rfl
 refine AnyG.step 1 (di:=32) [] (fun _:Unit=>.agg (elc 1).toArray) (fun _ W=>Below w4.heap.size w4 W) rr rfl sy sy kr ?_ ?_ ga9 gs9 (fun W h=>h) (fun _ W h=>h) ?_
 · intro F W hF hR a9 f9 K hK
   obtain⟨s1,rfl⟩:=zi3 hF
   rcases s1 with _|k1 <;>
     (refine zbb (f:=70) (args:=#[.int .u64 1]) kr ?_;refine(of_el 1 om W).mono ?_;rintro e w' ⟨rfl,hB⟩;exact⟨_,rfl,hK () _ (hR.trans (hB.mono hR.size)) hB⟩)
 · exact flt1 ⟨_,rfl,rfl,rfl,fun F W _=>a6.o _ _ _ rfl⟩
 intro _;refine AnyG.step 3 (di:=34) [] (fun _:Unit=>.agg (elc 1).toArray) (fun _ W=>Below w4.heap.size w4 W) rr rfl sy sy kr ?_ ?_ ga9 gs9 (fun W h=>h) (fun _ W h=>h) ?_
 · intro F W hF hR a9 f9 K hK
   obtain⟨s1,rfl⟩:=zi3 hF
   rcases s1 with _|k1 <;>
     (refine zbb (f:=70) (args:=#[.int .u64 1]) kr ?_;refine(of_el 1 om W).mono ?_;rintro e w' ⟨rfl,hB⟩;exact⟨_,rfl,hK () _ (hR.trans (hB.mono hR.size)) hB⟩)
 · exact flt1 ⟨_,rfl,rfl,rfl,fun F W _=>a6.o _ _ _ rfl⟩
 intro _;refine AnyG.step 4 (di:=35) [] (fun _:Unit=>.agg (lcs X (LS.start X)).toArray) (fun _ W=>Below w4.heap.size w4 W) rr rfl sy sy kr ?_ ?_ ga9 gs9 (fun W h=>h) (fun _ W h=>h) ?_
 · intro F W hF hR a9 f9 K hK
   obtain⟨s1,rfl⟩:=zi3 hF
   rcases s1 with _|k1 <;> exact zck kr (hK () _ hR (Below.refl _ _))
 · exact flt1 ⟨_,rfl,rfl,rfl,fun F W _=>a6.o _ _ _ rfl⟩
 intro _;refine AnyG.fin sy kr ?_ ga9 gs9 (fun W h=>h) ?_
 · exact flt1 ⟨_,rfl,rfl,rfl,fun F W _=>a6.o _ _ _ rfl⟩
 intro F W hF h0 hR a9;obtain⟨gl,rfl⟩:=zjz hF h0;obtain⟨⟨f0,g2,_⟩,_⟩:=a9;refine AnyK.storeAll 6 gl (lcs X (LS.start X)) 176 o20 rr rfl rfl rr kr kr kr g2 (by exact hdLad _ _) (zy2 _ _) rfl (fun _ _ _ h=>(by cases h)) ?_;intro w5 g5 e2;refine AnyK.done kr ?_;have b7:=e2.below hR f0 hR.size;have f3:=qh g5;have e3:=qbl c6 b7;have g6:=qbl b1 b7;have f4:=qtr f6 b7;have c2:Hid (w1.heap.size≠gl):=(by have:=c6.o.lt;show _≠_;omega);have b9:Hid (w.heap.size≠gl):=(by have:=b1.o.lt;show _≠_;omega);have b2:Hid (w.heap.size≤gl):=(by have:=b1.o.lt;show _≤_;omega);clear g5 e2 b7 hR f0 g2 hF h0 a6 c3 a7 c6 b1 f6 HC c8 HK HU g9 e4;simp only[putF];go_wp2
 go_loopg [10] 255 (fun kk q wr=>∃(k:Nat) (z:Int),kk=255-k∧q=.int .i64 z∧z=254-(k:Int)∧k≤255∧Blk wr gl 176 (lcs X (ladT X (kbit N) k))∧Blk wr w1.heap.size 27 (u8s N)∧Blk wr w.heap.size 27 o32∧Below w.heap.size w wr)
 case atStart=>exact⟨0,254,rfl,rfl,by omega,by omega,f3.o,e3.o,g6.o,f4.o⟩
 case round =>
  clear f3 e3 g6 f4;obtain⟨k,z,d8,rfl,hz,hk,hL,hN,hZ,hE⟩:=hrel
  rcases Nat.lt_or_ge k 255 with e5|g1
  · obtain⟨t,ht⟩:=ex9 (254-k)
    obtain rfl:z=(t:Int):=om;have g1:(0:Int)≤(t:Int):=om;obtain⟨q,hq⟩:=ex9 (t/8);obtain⟨r,hr⟩:=ex9 (t%8);obtain⟨b,hb⟩:=ex9 ((N.getD q 0).toNat);have J:b<256:=by rw[hb];exact(N.getD q 0).toNat_lt
    have e6:q<32:=om
    have cN:wr.cell? ⟨w1.heap.size,q,none⟩=some (.int .u8 (b:Int)):=by
     refine(hN.cell q).trans ?_;rw[hb,u8s_getElem?,gd9,ge9 (by rw[d6.o];exact e6)]
     rfl
    have i9:(t:Int)/8=(q:Int):=om;have i5:(t:Int)%8=(r:Int):=om;have i4:(q:Int)<32:=om;have i6:(r:Int)<8:=om;obtain⟨y,b5⟩:=ex9 (b/2^r);have hy:(b:Int)/2^r=(y:Int):=by rw[b5];push_cast;rfl
    have i1:y<256:=by rw[b5];exact Nat.lt_of_le_of_lt (Nat.div_le_self _ _) J
    have e1:bits .and .u8 (y:Int) 1=((y%2:Nat):Int):=by rw[←Nat.and_one_is_mod];exact u8_and_nat y 1 i1 om
    have b3:Hid (kbit N (254-k)=(y%2 == 1)):=(by show _=_;rw[←ht,kbit,←hq,←hr,←hb,←b5]);have Y:=qh (zkb X d5.o (kbit N) k);have c5:Hid (ladT X (kbit N) (k+1)=(ladT X (kbit N) k).round X (kbit N (254-k))):=rfl;have HT:Hid ((t:Int)-1=254-((k+1:Nat):Int)):=(by show _=_;omega);obtain⟨s,hs⟩:=ex9 (ladT X (kbit N) k);rw[←hs]at hL Y c5;have f5:=qh (fun W (s:LS) (h:Blk W gl 176 (lcs X s))=>lex_s gl 176 X s W h);have g7:=qh (fun W (s:LS) (hs:s.Ok) (h:Blk W gl 176 (lcs X s))=>lst_s gl 176 X s W d5.o hs h);have HL:=qh hL;have f8:=qh hN;have HZ:=qh hZ;have HE:=qh hE;have e7:=qh d8;have a2:=qh e5;clear hL hN hZ hE d8 hs hz ht hq hr hb b5 e5 hk
    rcases Nat.mod_two_eq_zero_or_one y with a4|a4
    · rw[a4]at e1 b3
      clear a4
      go_wp2_with (go_at_call 97;(with_reducible refine(g7.o _ s Y.o (by exact HL.o)).mono ?_);rintro e w6 ⟨rfl,G,D⟩;have c7:=qh G;have d0:=qh (f8.o.wrote D c2.o);have a1:=qh (HZ.o.wrote D b9.o);have M:=qh (D.below HE.o b2.o HE.o.size);clear G D)
      go_roundg (255-(k+1))
      case measure=>have:=e7.o;have:=a2.o;omega
      case rel=>exact⟨k+1,_,rfl,rfl,by have:=HT.o;go_num,by have:=a2.o;omega,by rw[c5.o,b3.o];exact c7.o,d0.o,a1.o,M.o⟩
    · rw[a4]at e1 b3
      clear a4
      go_wp2_with (first
       | (go_at_call 96;(with_reducible refine(f5.o _ _ (by exact i2.o)).mono ?_);rintro e w8 ⟨rfl,G,D⟩;have i0:=qh G;have h7:=qh (h8.o.wrote D c2.o);have a3:=qh (a0.o.wrote D b9.o);have V:=qh (D.below E.o b2.o E.o.size);clear G D)
       | (go_at_call 97;(with_reducible refine(g7.o _ _ Y.o.swap (by exact c7.o)).mono ?_);rintro e w7 ⟨rfl,G,D⟩;have i2:=qh G;have h8:=qh (d0.o.wrote D c2.o);have a0:=qh (a1.o.wrote D b9.o);have E:=qh (D.below M.o b2.o M.o.size);clear G D)
       | (go_at_call 96;(with_reducible refine(f5.o _ _ (by exact HL.o)).mono ?_);rintro e w6 ⟨rfl,G,D⟩;have c7:=qh G;have d0:=qh (f8.o.wrote D c2.o);have a1:=qh (HZ.o.wrote D b9.o);have M:=qh (D.below HE.o b2.o HE.o.size);clear G D))
      go_roundg (255-(k+1))
      case measure=>have:=e7.o;have:=a2.o;omega
      case rel=>exact⟨k+1,_,rfl,rfl,by have:=HT.o;go_num,by have:=a2.o;omega,by rw[c5.o,b3.o];exact i0.o,h7.o,a3.o,V.o⟩
  · obtain rfl:k=255:=om
    obtain rfl:z=-1:=om;have Y:=qh (zkb X d5.o (kbit N) 255);obtain⟨s,hs⟩:=ex9 (ladT X (kbit N) 255);rw[←hs]at hL Y e0;have i3:=zcy hL 4 s.x2 rfl;have i8:=zcy hL 8 s.z2 rfl;have HZ:=qh hZ;have HE:=qh hE;clear hL hN hZ hE d8 hs hz hk g1;obtain⟨Z,b4⟩:=ex9 (fmul s.x2 (s.z2^pE%pr));have g4:Hid (∀W,Calls Tryz.prog 98 #[.agg (elc s.x2++elc s.z2).toArray] W fun e w'=>e=.returned (.agg (elc Z).toArray)∧Below W.heap.size W w'):=fun W=>b4 ▸ val_el s.x2 s.z2 W (by have:=Y.o.1;simp only[pr]at this;omega) (by have:=Y.o.2.1;simp only[pr]at this;omega)
    have d7:Z<pr:=by rw[b4];exact zbd _ _
    have d3:Z<115792089237316195423570985008687907853269984665640564039457584007913129639936:=by simp only[pr]at d7;omega
    have e8:Hid (∀W,Calls Tryz.prog 69 #[.agg (elc Z).toArray] W fun e w'=>e=.returned (.agg (u8s (leB Z)).toArray)∧Below W.heap.size W w'):=fun W=>(zkr Z W d3).mono fun e w' h=>⟨by rw[h.1,Nat.mod_eq_of_lt d7],h.2⟩
    have g0:Hid (multN ks us=Z):=(by show _=_;rw[e0.o,b4]);have f7:=qh (zvf d3);have I:=qh (zhs Z);have h3:=qh (zzk s.x2 s.z2);clear b4 d7 d3;have f2:∀W,(eqAt 27 (.agg (u8s (leB Z)).toArray) (.agg #[.int .u8 0,.int .u8 0,.int .u8 0,.int .u8 0,.int .u8 0,.int .u8 0,.int .u8 0,.int .u8 0,.int .u8 0,.int .u8 0,.int .u8 0,.int .u8 0,.int .u8 0,.int .u8 0,.int .u8 0,.int .u8 0,.int .u8 0,.int .u8 0,.int .u8 0,.int .u8 0,.int .u8 0,.int .u8 0,.int .u8 0,.int .u8 0,.int .u8 0,.int .u8 0,.int .u8 0,.int .u8 0,.int .u8 0,.int .u8 0,.int .u8 0,.int .u8 0])).run Tryz.prog W=.ok (.bool (decide (leB Z=List.replicate 32 0))) W:=fun W=>eq32 (leB Z) (List.replicate 32 0) I.o rfl W
    by_cases hq0:Z=0
    · have HQ:=qh hq0
      rw[decide_eq_true (f7.o.2 hq0)]at f2;clear hq0
      go_wp2_with (first
       | (refine zai rfl 178 [(0,.tmp 56),(1,.tmp 58)] rfl _ rr (.agg (elc s.x2++elc s.z2).toArray) (h3.o _) ?_)
       | (go_at_call 98;(with_reducible refine(g4.o _).mono ?_);rintro e w6 ⟨rfl,hB⟩;have a1:=qbl HZ hB;have M:=qtr HE hB;clear hB)
       | (go_at_call 69;(with_reducible refine(e8.o _).mono ?_);rintro e w7 ⟨rfl,hB⟩;have a0:=qbl a1 hB;have E:=qtr M hB;clear hB)
       | (refine zab rfl 27 (.tmp 12) (.tmp 61) rfl w7.heap.size (u8s (leB Z)) rr rr 27 o32 (by exact Blk.new' rfl rfl) (by rw[zaa,I.o];exact hd32) (zac _) (by rw[zaa,I.o];rfl) ?_;intro w8 J U;have h9:=qh J;have h4:(ldAt 27 (.pointer (some ⟨w7.heap.size,0,none⟩))).run Tryz.prog w8=.ok (.agg (u8s (leB Z)).toArray) w8:=zal J 27 0 (u8s (leB Z)) (by rw[List.drop_zero];exact tk lr) _ Tryz.underlying27 rfl (by rw[zaa,I.o];exact hd32);have a3:=qal U a0 (by have:=a0.o.lt;omega);have V:=qh (U.below (E.o.alloc E.o.size _) E.o.size (by have:=E.o.size;simp;omega));clear J U)
       | (refine zab rfl 27 (.tmp 4) (.tmp 65) rfl w.heap.size o32 rr rr 27 o32 a3.o (by exact hd32) (zac _) rfl ?_;intro w9 a5 a8;have c9:=qh a5;have c4:=qh (a8.below V.o lr V.o.size);clear a5 a8))
      exact bodyPost_ret (zak rfl _ _ _ _ rfl c9.o _ Tryz.underlying27 rfl (by exact hd32)) rfl ⟨by rw[mB,mE,g0.o,if_pos HQ.o,if_pos HQ.o];rfl,c4.o⟩
    · have HQ:=qh hq0
      rw[decide_eq_false (fun h=>hq0 (f7.o.1 h))]at f2;clear hq0
      go_wp2_with (first
       | (refine zai rfl 178 [(0,.tmp 56),(1,.tmp 58)] rfl _ rr (.agg (elc s.x2++elc s.z2).toArray) (h3.o _) ?_)
       | (go_at_call 98;(with_reducible refine(g4.o _).mono ?_);rintro e w6 ⟨rfl,hB⟩;have a1:=qbl HZ hB;have M:=qtr HE hB;clear hB)
       | (go_at_call 69;(with_reducible refine(e8.o _).mono ?_);rintro e w7 ⟨rfl,hB⟩;have a0:=qbl a1 hB;have E:=qtr M hB;clear hB)
       | (refine zab rfl 27 (.tmp 12) (.tmp 61) rfl w7.heap.size (u8s (leB Z)) rr rr 27 o32 (by exact Blk.new' rfl rfl) (by rw[zaa,I.o];exact hd32) (zac _) (by rw[zaa,I.o];rfl) ?_;intro w8 J U;have h9:=qh J;have h4:(ldAt 27 (.pointer (some ⟨w7.heap.size,0,none⟩))).run Tryz.prog w8=.ok (.agg (u8s (leB Z)).toArray) w8:=zal J 27 0 (u8s (leB Z)) (by rw[List.drop_zero];exact tk lr) _ Tryz.underlying27 rfl (by rw[zaa,I.o];exact hd32);have a3:=qal U a0 (by have:=a0.o.lt;omega);have V:=qh (U.below (E.o.alloc E.o.size _) E.o.size (by have:=E.o.size;simp;omega));clear J U)
       | (refine zab rfl 27 (.tmp 4) (.tmp 66) rfl w.heap.size (u8s (leB Z)) rr rr 27 o32 a3.o (by rw[zaa,I.o];exact hd32) (zac _) (by rw[zaa,I.o];rfl) ?_;intro w9 a5 a8;have c9:=qh a5;have c4:=qh (a8.below V.o lr V.o.size);clear a5 a8))
      exact bodyPost_ret (zak rfl _ _ _ _ rfl c9.o _ Tryz.underlying27 rfl (by rw[zaa,I.o];exact hd32)) rfl ⟨by rw[mB,mE,g0.o,if_neg HQ.o,if_neg HQ.o];rfl,c4.o⟩
end
theorem zfk(k u:List UInt8):(mB k u).length=32:=by
 unfold mB
 split
 · rfl
 · exact zhs _
theorem Sp.at_blind{s:Sp}(h:s.ok):(s.bytes.drop 96).take 32=s.blind:=by
 have e:s.bytes=(s.mac++(s.stream++s.pay))++(s.blind++(s.alpha++s.secret)):=by simp[Sp.bytes]
 rw[e,List.drop_left' (by simp[h.1,h.2.1,h.2.2.1]),List.take_left' h.2.2.2.1]
theorem zu6(s:Sp)(hs:s.ok)(w:World):
 Calls Tryz.prog 44 #[.agg s.cells.toArray] w fun e w'=>e=.returned (.tuple #[.agg (u8s (mB s.blind s.alpha)).toArray,.int .i64 (mE s.blind s.alpha:Int)])∧Below w.heap.size w w':=by
 obtain⟨C,hC⟩:=ex9 (s.cells);have Y:Hid (C.length=192):=(by show _=_;rw[hC];exact Sp.cells_len hs)
 have HM:Hid (∀W,Blk W w.heap.size 83 C→Calls Tryz.prog 71 #[.slice (some ⟨w.heap.size,96,none⟩) 32 32,.slice (some ⟨w.heap.size,128,none⟩) 32 32] W fun e w'=>e=.returned (.tuple #[.agg (u8s (mB s.blind s.alpha)).toArray,.int .i64 (mE s.blind s.alpha:Int)])∧Below W.heap.size W w'):=fun W h=>by
  rw[hC]at h;exact zj5 _ _ 32 32 s.blind s.alpha W (Sp.rd h hs 96 s.blind om (Sp.at_blind hs)) (Sp.rd h hs 128 s.alpha om (Sp.at_alpha hs))
 have A:=qh (zfk s.blind s.alpha);rw[←hC];generalize mB s.blind s.alpha=M at *;generalize (mE s.blind s.alpha:Int)=E at *;clear hC hs
 have r:Hid (Blk ((w.alloc (.cells C.toArray 83)).alloc (.cells o32.toArray 27)) w.heap.size 83 C∧Blk ((w.alloc (.cells C.toArray 83)).alloc (.cells o32.toArray 27)) (w.heap.size+1) 27 o32∧Below w.heap.size w ((w.alloc (.cells C.toArray 83)).alloc (.cells o32.toArray 27))) :=
  ⟨(Blk.new w _ _).alloc _,Blk.new' sy rfl,((Below.refl _ w).alloc lr _).alloc sy _⟩
 go_enter Tryz.func44, Tryz.ntmps44
 go_wp2;refine kgo kr 8 (fun w'=>True) trivial (fun _ _ _ _ _ h=>h) ?_;refine kp 0 (.pointer (some ⟨w.heap.size,0,none⟩)) rfl kr (fun _=>kr) ?_;refine kp 1 (.pointer (some ⟨w.heap.size,96,none⟩)) rfl kr (fun _=>kr) ?_;refine kp 2 (.slice (some ⟨w.heap.size,96,none⟩) 32 32) rfl kr (fun _=>kr) ?_;refine kp 3 (.pointer (some ⟨w.heap.size,128,none⟩)) rfl kr (fun _=>kr) ?_;refine kp 4 (.slice (some ⟨w.heap.size,128,none⟩) 32 32) rfl kr (fun _=>kr) ?_;intro q8 q9;clear q8 q9;refine AnyK.enter 5 (d:=some 9) (f:=71) (args:=#[.slice (some ⟨w.heap.size,96,none⟩) 32 32,.slice (some ⟨w.heap.size,128,none⟩) 32 32]) rr kr kr ?_;refine(HM.o _ (by exact r.o.1.drew)).mono ?_;rintro e w2 ⟨rfl,hB⟩;refine⟨_,rfl,fun _=>trivial,?_⟩;have D:Below ((w.alloc (.cells C.toArray 83)).alloc (.cells o32.toArray 27)).drew.heap.size ((w.alloc (.cells C.toArray 83)).alloc (.cells o32.toArray 27)).drew w2:=hB;have J:=r.o.2.1.drew.below D r.o.2.1.drew.lt;have G:=r.o.2.2.drew.trans (D.mono r.o.2.2.drew.size);refine AnyK.pure 6 (v:=.agg (u8s M).toArray) rfl kr (fun _ _ _ h=>h) rfl (fun _=>kr) (fun _=>trivial) ?_;refine AnyK.pure 7 (v:=.int .i64 E) rfl kr (fun _ _ _ h=>h) rfl (fun _=>kr) (fun _=>trivial) ?_;refine AnyK.storeAll 8 (w.heap.size+1) (u8s M) 27 o32 rr rfl rfl rr kr kr kr J (by rw[zaa,A.o];exact hd32) (zac _) (by rw[zaa,A.o];rfl) (fun _ _ _ _=>trivial) ?_;intro w3 U I;have X:=qh (I.below G om G.size);refine AnyK.val 9 (v:=.int .i64 E) rr kr rfl kr (fun _=>trivial) ?_;refine AnyK.done kr ?_;have V:=qh U;clear U I J G hB D;go_wp2;exact bodyPost_ret (zak (p:=2) (u:=3) (ty:=27) rfl _ (w.heap.size+1) 27 (u8s M) kr V.o _ Tryz.underlying27 rfl (by rw[zaa,A.o];exact hd32)) rfl ⟨by kernel_rfl,X.o⟩
noncomputable def chV:List UInt8→List (List UInt8)→List UInt8 × Nat
 | u,[]=>(u,0)
 | u,k :: ks=>if mE k u=0 then chV (mB k u) ks else (List.replicate 32 0,mE k u)
theorem zf0:∀(ks:List (List UInt8)) (u:List UInt8),u.length=32→(chV u ks).1.length=32
 | [],u,h=>h
 | k :: ks,u,h=>by
  rw[chV]
  split
  · exact zf0 ks _ (zfk _ _)
  · rfl
noncomputable def nrm(u:List UInt8):List UInt8:=leB (readN u%pr)
theorem zec(u:List UInt8):(nrm u).length=32:=zhs _
def lMac:List UInt8:=[109,97,99]
def lStream:List UInt8:=[115,116,114,101,97,109]
def lPay:List UInt8:=[112,97,121]
def lBlind:List UInt8:=[98,108,105,110,100]
def stp(al sec:List UInt8):Sp:=⟨Wd.derive sec lMac,Wd.derive sec lStream,Wd.derive sec lPay,Wd.derive sec lBlind,al,sec⟩
theorem znm{al r:List UInt8}(h1:al.length=32)(h2:r.length=32):(stp al r).ok:=⟨Wd.derive_len _ _,Wd.derive_len _ _,Wd.derive_len _ _,Wd.derive_len _ _,h1,h2⟩
noncomputable def sch:List Sp→List (List UInt8)→List UInt8→List (List UInt8)→List Sp × Nat
 | acc,_,_,[]=>(acc,0)
 | acc,sc,al,p :: ps=>if (chV (nrm p) sc).2=0 then sch (acc++[stp al (chV (nrm p) sc).1]) (sc++[Wd.derive (chV (nrm p) sc).1 lBlind]) (mB (Wd.derive (chV (nrm p) sc).1 lBlind) al) ps else ([],(chV (nrm p) sc).2)
theorem mE_uB{j:Nat}(hj:¬ordB ∣ j){k:List UInt8}(hk:k.length=32):mE k (leB (uB j))=0:=by
 unfold mE
 rw[zsj hj hk,if_neg (uB_ne (zjy hj (clm hk)))]
theorem mB_uB{j:Nat}(hj:¬ordB ∣ j){k:List UInt8}(hk:k.length=32):mB k (leB (uB j))=leB (uB (j*clN k)):=by
 unfold mB
 rw[zsj hj hk,if_neg (uB_ne (zjy hj (clm hk)))]
theorem zyo:¬ordB ∣ 1:=by
 intro h;have:=Nat.le_of_dvd om h;have h5:Nat.ble 3 ordB=true:=by kernel_rfl
 have:=Nat.le_of_ble_eq_true h5;omega
def Good(al:List UInt8):Prop:=∃j,¬ordB ∣ j∧al=leB (uB j)
theorem Good.len{al:List UInt8}(h:Good al):al.length=32:=by obtain⟨j,_,rfl⟩:=h;exact zhs _
theorem Good.mE{al k:List UInt8}(h:Good al)(hk:k.length=32):mE k al=0:=by obtain⟨j,hj,rfl⟩:=h;exact mE_uB hj hk
theorem Good.mB{al k:List UInt8}(h:Good al)(hk:k.length=32):Good (mB k al):=by
 obtain⟨j,hj,rfl⟩:=h;exact⟨j*clN k,zjy hj (clm hk),mB_uB hj hk⟩
def nine:List UInt8:=leB (9%pr)
theorem zfl:Good nine:=⟨1,zyo,by rw[nine,uB_one,Nat.mod_eq_of_lt (by show 9<pr;exact Nat.le_of_ble_eq_true kr)]⟩
noncomputable def pubB(k:List UInt8):List UInt8:=mB k nine
noncomputable def pubE(k:List UInt8):Nat:=mE k nine
theorem zwn{k:List UInt8}(hk:k.length=32):pubE k=0:=zfl.mE hk
theorem znz{k:List UInt8}(hk:k.length=32):Good (pubB k):=zfl.mB hk
theorem zpj(A:Option Addr)(c:Nat)(ks:List UInt8)(w:World)(hk:Rd w A 32 (u8s ks)):
 Calls Tryz.prog 41 #[.slice A 32 c] w fun e w'=>e=.returned (.tuple #[.agg (u8s (pubB ks)).toArray,.int .i64 0])∧Below w.heap.size w w':=by
 have HK:=qh hk;have HE:Hid ((mE ks nine:Int)=0):=by show _=_;rw[show mE ks nine=0 from zwn hk.len];rfl
 have HM:Hid (∀W B d,Rd W A 32 (u8s ks)→Rd W B 32 (u8s nine)→Calls Tryz.prog 71 #[.slice A 32 c,.slice B 32 d] W fun e w'=>e=.returned (.tuple #[.agg (u8s (pubB ks)).toArray,.int .i64 0])∧Below W.heap.size W w'):=fun W B d h1 h2=>by
  have h5:=zj5 A B c d ks nine W h1 h2;rw[HE.o]at h5;exact h5
 have HO:Hid (∀W,Calls Tryz.prog 70 #[.int .u64 9] W fun e w'=>e=.returned (.agg (elc 9).toArray)∧Below W.heap.size W w'):=fun W=>of_el 9 om W
 have HY:Hid (∀W,Calls Tryz.prog 69 #[.agg (elc 9).toArray] W fun e w'=>e=.returned (.agg (u8s nine).toArray)∧Below W.heap.size W w'):=fun W=>zkr 9 W om
 have r:Hid ((u8s nine).length=32):=by show _=_;rw[zaa,zfl.len]
 have a4:Hid (∀v∈u8s nine,v.oneCell'=true):=zac _;have M:Hid ((u8s (pubB ks)).length=32):=by show _=_;rw[zaa,pubB,zfk]
 have a7:Hid (∀v∈u8s (pubB ks),v.oneCell'=true):=zac _;have a0:Hid (Blk (w.alloc (.cells o32.toArray 27)) w.heap.size 27 o32):=Blk.new _ _ _;have b1:Hid (Below w.heap.size w (w.alloc (.cells o32.toArray 27))):=(Below.refl _ w).alloc lr _;generalize u8s (pubB ks)=PB at *;generalize u8s nine=NI at *;generalize elc 9=E9 at *;clear hk HE
 go_enter Tryz.func41, Tryz.ntmps41
 go_wp2_with (first
  | (go_at_call 70;(with_reducible refine(HO.o _).mono ?_);rintro e w1 ⟨rfl,E⟩;have b2:=qtr b1 E;have a8:=qbl a0 E;clear E)
  | (go_at_call 69;(with_reducible refine(HY.o _).mono ?_);rintro e w2 ⟨rfl,J⟩;have D:=qtr b2 J;have X:=qbl a8 J;clear J)
  | (refine zab rfl 27 (.tmp 4) (.tmp 6) rfl w2.heap.size NI rr rr 27 o32 (by exact Blk.new' rfl rfl) (by rw[r.o];exact hd24) a4.o (by rw[r.o];rfl) ?_;intro w3 Y G;have U:=qh (G.below (D.o.alloc D.o.size _) D.o.size (Nat.le_trans D.o.size sy));have a1:=qal G X (by have:=X.o.lt;omega);have a5:Hid (Rd w3 (some ⟨w2.heap.size,0,none⟩) 32 NI):=by have:=Y.rd 0 32 (by rw[r.o];exact lr);rwa [List.drop_zero,tk (by rw[r.o];exact lr)]at this
     clear Y G)
  | (go_at_call 71;(with_reducible refine(HM.o _ _ _ (by exact HK.o.below U.o) (by exact a5.o)).mono ?_);rintro e w4 ⟨rfl,I⟩;have V:=qtr U I;have a9:=qbl a1 I;clear I)
  | (refine zab rfl 27 (.tmp 2) (.tmp 10) rfl w.heap.size PB rr rr 27 o32 (by exact a9.o) (by rw[M.o];exact hd24) a7.o (by rw[M.o];rfl) ?_;intro w5 a3 a2;have a6:=qh (a2.below V.o lr V.o.size)))
 exact bodyPost_ret (zak rfl _ _ _ _ rfl a3 _ Tryz.underlying27 rfl (by rw[M.o];exact hd24)) rfl ⟨rfl,a6.o⟩
section
theorem zqr(p v:Value):Instr.storeAt 27 p v=stAt 27 p v:=rfl
theorem zvh(v:Value):Instr.loadAt 146 v=ldAt 146 v:=rfl
theorem zev{w:World}{g:Nat}{t:TypeId}{C:List Value}(hb:Blk w g t C)(hl:C.length=32):(ldAt 27 (.pointer (some ⟨g,0,none⟩))).run Tryz.prog w=.ok (.agg C.toArray) w :=
 zal hb _ 0 C (by rw[List.drop_zero,tk lr]) _ Tryz.underlying27 rfl (by rw[hl];exact hd24)
attribute [local go_sem ↓] zb0 zvh
theorem znv(u:List UInt8):readN u<pr:=Nat.mod_lt _ (Nat.le_of_ble_eq_true kr)
theorem ztn(w:World):(Instr.build 27 #[]).run Tryz.prog w=.ok (.agg o32.toArray) w:=by kernel_rfl
theorem RdB.only_new{w w':World}{o:Obj}{A:Option Addr}{n:Nat}{ls:List (List UInt8)}(h:RdB w A n ls)(ho:Only (w.alloc o) w' w.heap.size):RdB w' A n ls:=by
 have hB:Below w.heap.size w w':=ho.below ((Below.refl _ w).alloc lr o) lr sy;exact h.below hB
theorem zte(A C:Option Addr)(c m d:Nat)(us:List UInt8)(D:List (List UInt8))(w:World)(hu:Rd w A 32 (u8s us))(hk:RdB w C m D)(e8:∀k∈D,k.length=32)(hm:m≤1000):
 Calls Tryz.prog 42 #[.slice A 32 c,.slice C m d] w fun e w'=>e=.returned (.tuple #[.agg (u8s (chV (nrm us) D).1).toArray,.int .i64 ((chV (nrm us) D).2:Int)])∧Below w.heap.size w w':=by
 have d3:=zf0 D (nrm us) (zec us);obtain⟨R,hR⟩:=ex9 (chV (nrm us) D);rw[←hR]at d3 ⊢;have f9:Hid (chV (nrm us) D=R):=hR.symm;have HU:=qh hu;have HK:=qh hk;have d5:=qh e8;have e5:Hid (D.length=m):=by obtain⟨_,_,h,_⟩:=hk;exact h
 have e0:Hid (∀W,Rd W A 32 (u8s us)→Calls Tryz.prog 72 #[.slice A 32 c] W fun e w'=>e=.returned (.tuple #[.agg (elc (readN us)).toArray,.int .i64 0])∧Below W.heap.size W w'):=fun W h=>zrq A 32 c us W h rfl
 have HY:Hid (∀W,Calls Tryz.prog 69 #[.agg (elc (readN us)).toArray] W fun e w'=>e=.returned (.agg (u8s (nrm us)).toArray)∧Below W.heap.size W w'):=fun W=>zkr (readN us) W (Nat.lt_trans (znv us) (Nat.le_of_ble_eq_true rfl))
 have c5:Hid ((u8s (nrm us)).length=32):=by show _=_;rw[zaa,zec]
 have g5:Hid ((u8s R.1).length=32):=by show _=_;rw[zaa,d3]
 have e6:Hid (Blk (w.alloc (.cells o32.toArray 27)) w.heap.size 27 o32):=Blk.new _ _ _;have d8:Hid (Below w.heap.size w (w.alloc (.cells o32.toArray 27))):=(Below.refl _ w).alloc lr _;have c3:Hid ((elc (readN us)).length=4):=rfl;have f5:=qh (za3 (readN us));generalize elc (readN us)=X at *;clear hu hk e8 hR d3
 go_enter Tryz.func42, Tryz.ntmps42
 go_upto_region 4 with (first
  | (go_at_call 72;(refine(e0.o _ (by exact HU.o.alloc _)).mono ?_);rintro e w1 ⟨rfl,b7⟩;have a4:=qtr d8 b7;have c8:=qbl e6 b7;clear b7)
  | (refine zab rfl 146 (.tmp 6) (.tmp 16) rfl w1.heap.size X rr rr 146 (l4 0 0 0 0) (by exact Blk.new' rfl rfl) (by rw[c3.o];exact hdEl) f5.o (by rw[c3.o];rfl) ?_;intro w2 e3 c4;have d0:=qh (c4.below (a4.o.alloc a4.o.size _) a4.o.size (Nat.le_trans a4.o.size sy));have e2:=qal c4 c8 (by have:=c8.o.lt;omega);have f3:=qh e3;clear e3 c4))
 have c6:=qh (HK.o.below d0.o);have a1:=e5.o;clear e0 a4 c8 HU d8 e6 a1;go_wp2
 go_loop [24] (fun q=>∃k:Nat,k≤m∧q=.int .i64 k) (fun q=>m-(intOf q).toNat)
 case atStart=>exact⟨0,Nat.zero_le _,rfl⟩
 case round =>
  obtain⟨k,h0,rfl⟩:=hrel
  by_cases hlt:k<m
  · have f7:(k:Int)<(m:Int):=om
    obtain⟨b,g4,A1,n1,c1,l,rfl,hb,a0,hc,g1,V⟩:=c6.o.at_ hlt;have hl:=V.len;rw[d5.o l (mg9 a0.o)]at hl;subst hl;clear V a0;go_wp2
    go_round
    case rel=>exact⟨k+1,by omega,by go_num⟩
    case measure=>simp[intOf];omega
  · obtain rfl:k=m:=om
    have f7:¬(k:Int)<(k:Int):=om;have d4:(ldAt 146 (.pointer (some ⟨w1.heap.size,0,none⟩))).run Tryz.prog w2=.ok (.agg X.toArray) w2:=zal f3.o _ 0 X (by rw[List.drop_zero,tk lr]) _ Tryz.underlying146 rfl (by rw[c3.o];exact hdEl)
    go_wp2_with (first
     | (go_at_call 69;(refine(HY.o _).mono ?_);rintro e w3 ⟨rfl,a8⟩;have Y:=qtr d0 a8;have a9:=qbl e2 a8;have f1:=qh (c6.o.below a8);clear a8)
     | (refine zab rfl 27 (.tmp 10) (.tmp 34) rfl w3.heap.size (u8s (nrm us)) rr rr 27 o32 (by exact Blk.new' rfl rfl) (by rw[c5.o];exact hd24) (zac _) (by rw[c5.o];rfl) ?_;intro w4 g0 b3;have e9:=qh (b3.below (Y.o.alloc Y.o.size _) Y.o.size (Nat.le_trans Y.o.size sy));have f0:=qal b3 a9 (by have:=a9.o.lt;omega);have g8:=qh (f1.o.only_new b3);have HG:Hid (w.heap.size≠w3.heap.size):=by have:=a9.o.lt;show _≠_;omega
        have e7:=qh Y.o.size;have d9:=qh g0
        clear g0 b3))
    have b5:Hid ((nrm us).length=32):=zec us;clear d0 e2 c6 f3 d4 Y a9 f1
    go_loopg [37] k (fun kk q wr=>∃(j:Nat) (r:List UInt8),j≤k∧kk=k-j∧q=.int .i64 j∧Hid (chV r (D.drop j)=R)∧Hid (r.length=32)∧Hid (Blk wr w3.heap.size 27 (u8s r))∧Hid (Blk wr w.heap.size 27 o32)∧Hid (Below w.heap.size w wr))
    case atStart=>exact⟨0,nrm us,Nat.zero_le _,rfl,rfl,by rw[List.drop_zero];exact f9,b5,d9,f0,e9⟩
    case round =>
     clear e9 f0 g8 d9 HY b5 f9 c5;obtain⟨j,r,h3,f6,rfl,HV,a5,b1,c9,a2⟩:=hrel;have g7:=qh (HK.o.below a2.o);have g3:=qh f6;clear f6
     by_cases hlt3:j<k
     · have d7:(j:Int)<(k:Int):=om
       obtain⟨b,g4,A1,n1,c1,l,rfl,hb,a0,hc,g1,V⟩:=g7.o.at_ hlt3;have hl:=V.len;rw[d5.o l (mg9 a0.o)]at hl;subst hl;have e1:=qh V
       have f8:D.drop j=l :: D.drop (j+1):=by
        obtain⟨hj,he⟩:=gi9.1 a0.o;rw[List.drop_eq_getElem_cons hj,he]
       have hv:=HV.o;rw[f8,chV]at hv;have hM:=fun W h1 h2=>zj5 A1 (some ⟨w3.heap.size,0,none⟩) c1 32 l r W h1 h2
       have a1:=zfk l r;generalize mB l r=MB at *;have HM:=qh hM;have U:Hid ((u8s MB).length=32):=by show _=_;rw[zaa,a1]
       have d6:=qh a1;have a6:=qh hv
       have f2:Hid (Rd wr (some ⟨w3.heap.size,0,none⟩) 32 (u8s r)):=by
        have:=b1.o.rd 0 32 (by rw[zaa,a5.o];exact lr)
        rwa [List.drop_zero,tk (by rw[zaa,a5.o];exact lr)]at this
       have G:Hid ((u8s r).length=32):=by show _=_;rw[zaa,a5.o]
       clear V a0 f8 hv hM a1 HV
       by_cases he:mE l r=0
       · have e4:(mE l r:Int)=0:=by rw[he];rfl
         have hv:=a6.o;rw[if_pos he]at hv;have J:=qh hv;generalize (mE l r:Int)=E at *;subst e4;clear he hv a6
         go_wp2_with (first
          | (go_at_call 71;(refine(HM.o _ (by exact e1.o) (by exact f2.o)).mono ?_);rintro e w6 ⟨rfl,I⟩;have a3:=qtr a2 I;have c2:=qbl c9 I;have c0:=qbl b1 I;clear I)
          | (refine zab rfl 27 (.tmp 10) (.tmp 45) rfl w3.heap.size (u8s MB) rr rr 27 (u8s r) (by exact c0.o) (by rw[U.o];exact hd24) (zac _) (by rw[U.o,G.o]) ?_;intro w7 b4 M;have b2:=qh (M.below a3.o e7.o a3.o.size);have c7:=qon M c2 HG;have g2:=qh b4;clear b4 M))
         go_roundg (k-(j+1))
         case measure=>have:=g3.o;omega
         case rel=>exact⟨j+1,MB,by omega,rfl,by go_num,J,d6,g2,c7,b2⟩
       · have e4:¬(mE l r:Int)=0:=om
         have hv:=a6.o;rw[if_neg he]at hv;have J:=qh hv;generalize mE l r=E at *;have f4:Hid (o32=u8s R.1):=by show _=_;rw[←J.o];rfl
         have g6:Hid (R.2=E):=by show _=_;rw[←J.o]
         clear he hv a6 J
         go_wp2_with (first
          | (go_at_call 71;(refine(HM.o _ (by exact e1.o) (by exact f2.o)).mono ?_);rintro e w6 ⟨rfl,I⟩;have a3:=qtr a2 I;have c2:=qbl c9 I;have c0:=qbl b1 I;clear I)
          | (refine zab rfl 27 (.tmp 10) (.tmp 45) rfl w3.heap.size (u8s MB) rr rr 27 (u8s r) (by exact c0.o) (by rw[U.o];exact hd24) (zac _) (by rw[U.o,G.o]) ?_;intro w7 b4 M;have b2:=qh (M.below a3.o e7.o a3.o.size);have c7:=qon M c2 HG;clear b4 M)
          | (refine zai rfl 27 [] rfl [] rr (.agg o32.toArray) (ztn _) ?_)
          | (refine zab rfl 27 (.tmp 4) (.tmp 49) rfl w.heap.size o32 rr rr 27 o32 (by exact c7.o) (by exact hd24) (zac _) rfl ?_;intro w8 a7 b6;have b9:=qh (b6.below b2.o lr b2.o.size)))
         rw[f4.o]at a7;exact bodyPost_ret (zak rfl _ _ _ _ rfl a7 _ Tryz.underlying27 rfl (by rw[g5.o];exact hd24)) rfl ⟨by rw[g6.o];rfl,b9.o⟩
     · obtain rfl:j=k:=om
       have d7:¬(j:Int)<(j:Int):=om;have hv:=HV.o;rw[List.drop_eq_nil_of_le (by rw[e5.o];exact lr),chV]at hv;have G:Hid ((u8s r).length=32):=by show _=_;rw[zaa,a5.o]
       have g9:=zev b1.o G.o;have J:=qh hv;clear hv HV
       go_wp2_with (first
        | (refine zab rfl 27 (.tmp 4) (.tmp 52) rfl w.heap.size (u8s r) rr rr 27 o32 (by exact c9.o) (by rw[G.o];exact hd24) (zac _) (by rw[G.o];rfl) ?_;intro w8 a7 b6;have b9:=qh (b6.below a2.o lr a2.o.size)))
       exact bodyPost_ret (zak rfl _ _ _ _ rfl a7 _ Tryz.underlying27 rfl (by rw[G.o];exact hd24)) rfl ⟨by rw[←J.o];rfl,b9.o⟩
end
