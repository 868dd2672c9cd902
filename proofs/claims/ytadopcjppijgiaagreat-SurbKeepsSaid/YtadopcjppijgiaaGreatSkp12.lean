/- Part of the proof. -/
import Derived.Deep.DeepCutAuto
import Derived.Test.YtadopcjppijgiaaGreatSkp10
set_option linter.all false
set_option maxRecDepth 100000
set_option maxHeartbeats 0
namespace Go.Proofs.YtadopcjppijgiaaGreat
open Go.RowKit
theorem of_any(n:Nat)(w:World):
 Calls Tryz.prog 70 #[.int .u64 (n:Int)] w fun e w'=>e=.returned (.agg (l4 n 0 0 0).toArray)∧Below w.heap.size w w':=by
 go_enter Tryz.func70, Tryz.ntmps70
 go_wp2;refine bodyPost_ret (zan rfl _ w.heap.size 146 (l4 n 0 0 0) rfl ?_ _ Tryz.underlying146 rfl (by exact hdEl)) rfl ⟨rfl,?_⟩
 · exact Blk.new' rfl rfl
 · exact(Below.refl _ w).alloc lr _
def elc(n:Nat):List Value:=l4 (n%18446744073709551616) (n/18446744073709551616%18446744073709551616) (n/340282366920938463463374607431768211456%18446744073709551616) (n/6277101735386680763835789423207666416102355444464034512896%18446744073709551616)
theorem l4_of(a b c d:Nat)(h0:a<18446744073709551616)(h1:b<18446744073709551616)(h2:c<18446744073709551616)(h3:d<18446744073709551616):l4 a b c d=elc (v4 a b c d):=by
 simp only[elc,v4]
 congr 1 <;> omega
theorem v4_of(n:Nat)(h:n<115792089237316195423570985008687907853269984665640564039457584007913129639936):v4 (n%18446744073709551616) (n/18446744073709551616%18446744073709551616) (n/340282366920938463463374607431768211456%18446744073709551616) (n/6277101735386680763835789423207666416102355444464034512896%18446744073709551616)=n:=by
 simp only[v4];omega
theorem zwt(n v q:Nat)(h:n=v+q*pr)(hv:v<pr):v=n%pr:=by simp only[pr]at *;omega
theorem sub_of(a b r q q':Nat)(h:a+q'*pr=r+b+q*pr)(hv:r<pr):r=(a+(pr-b%pr))%pr:=by simp only[pr]at *;omega
theorem pr_lt(n:Nat):n%pr<115792089237316195423570985008687907853269984665640564039457584007913129639936:=by simp only[pr];omega
theorem zdc(n:Nat):n%pr<pr:=Nat.mod_lt _ (by simp[pr])
theorem za3(n:Nat):∀v∈elc n,v.oneCell'=true:=zei _ _ _ _
theorem zj2(n:Nat)(hn:n<115792089237316195423570985008687907853269984665640564039457584007913129639936)(w:World):
 Calls Tryz.prog 94 #[.agg (elc n).toArray] w fun e w'=>e=.returned (.agg (elc (n%pr)).toArray)∧Below w.heap.size w w':=by
 refine(zfi _ _ _ _ (Nat.mod_lt _ om) (Nat.mod_lt _ om) (Nat.mod_lt _ om) (Nat.mod_lt _ om) w).mono ?_;rintro e w' ⟨s0,s1,s2,s3,q,rfl,⟨h0,h1,h2,h3,h4,h5⟩,hB⟩;rw[v4_of n hn]at h5;exact⟨by rw[l4_of _ _ _ _ h0 h1 h2 h3,zwt _ _ _ h5 h4],hB⟩
theorem add_el(a b:Nat)(ha:a<115792089237316195423570985008687907853269984665640564039457584007913129639936)(hb:b<115792089237316195423570985008687907853269984665640564039457584007913129639936)(h:a+b<115792089237316195423570985008687907853269984665640564039457584007913129639936)(w:World):
 Calls Tryz.prog 140 #[.agg (elc a).toArray,.agg (elc b).toArray] w fun e w'=>e=.returned (.agg (elc ((a+b)%pr)).toArray)∧Below w.heap.size w w':=by
 refine(zf9 _ _ _ _ _ _ _ _ (Nat.mod_lt _ om) (Nat.mod_lt _ om) (Nat.mod_lt _ om) (Nat.mod_lt _ om) (Nat.mod_lt _ om) (Nat.mod_lt _ om) (Nat.mod_lt _ om) (Nat.mod_lt _ om) (by rw[v4_of a ha,v4_of b hb];exact h) w).mono ?_;rintro e w' ⟨s0,s1,s2,s3,q,rfl,⟨h0,h1,h2,h3,h4,h5⟩,hB⟩;rw[v4_of a ha,v4_of b hb]at h5;exact⟨by rw[l4_of _ _ _ _ h0 h1 h2 h3,zwt _ _ _ h5 h4],hB⟩
theorem of_el(n:Nat)(hn:n<18446744073709551616)(w:World):
 Calls Tryz.prog 70 #[.int .u64 (n:Int)] w fun e w'=>e=.returned (.agg (elc n).toArray)∧Below w.heap.size w w':=by
 refine(of_any n w).mono ?_;rintro e w' ⟨rfl,hB⟩;exact⟨by rw[l4_of n 0 0 0 hn om om om];simp[v4],hB⟩
theorem zbj{w:World}{g:Nat}{t:TypeId}{n:Nat}(hb:Blk w g t (elc n)):(ldAt 146 (.pointer (some ⟨g,0,none⟩))).run Tryz.prog w=.ok (.agg (elc n).toArray) w:=el_ld hb
def numL(B:Nat):List Nat→Nat
 | []=>0
 | x :: xs=>x+B*numL B xs
theorem zer(B:Nat):∀(l:List Nat) (k v:Nat),k<l.length→numL B (l.set k v)+l.getD k 0*B^k=numL B l+v*B^k
 | [],k,v,h=>by simp at h
 | x :: xs,0,v,h=>by simp[numL];omega
 | x :: xs,k+1,v,h=>by
  have ih:=zer B xs k v (by simpa using h);simp only[List.set_cons_succ,numL,List.getD_cons_succ,Nat.pow_succ]
  grind
theorem zbp(B:Nat):∀(l:List Nat) (k:Nat),k<l.length→numL B (l.take (k+1))=numL B (l.take k)+l.getD k 0*B^k
 | [],k,h=>by simp at h
 | x :: xs,0,h=>by simp[numL]
 | x :: xs,k+1,h=>by
  have ih:=zbp B xs k (by simpa using h);simp only[List.take_succ_cons,numL,List.getD_cons_succ,Nat.pow_succ]
  grind
theorem zfh(B:Nat):∀(l:List Nat) (k:Nat),k≤l.length→numL B l=numL B (l.take k)+B^k*numL B (l.drop k)
 | l,0,h=>by simp[numL]
 | [],k+1,h=>by simp at h
 | x :: xs,k+1,h=>by
  have ih:=zfh B xs k (by simpa using h);simp only[List.take_succ_cons,List.drop_succ_cons,numL,Nat.pow_succ]
  grind
theorem zfv(B:Nat):∀(l:List Nat),(∀x∈l,x<B)→numL B l<B^l.length
 | [],_=>by simp[numL]
 | x :: xs,h=>by
  have ih:=zfv B xs (fun y hy=>h y (List.mem_cons_of_mem _ hy));have hx:=h x List.mem_cons_self;simp only[numL,List.length_cons,Nat.pow_succ]
  have h1:B*numL B xs+B≤B*B^xs.length:=by
   have:=Nat.mul_le_mul_left B ih;rw[Nat.mul_succ]at this;exact this
  have h2:B*B^xs.length=B^xs.length*B:=Nat.mul_comm _ _;omega
theorem zhm(B n:Nat):numL B (List.replicate n 0)=0:=by
 induction n with
 | zero=>rfl
 | succ n ih=>simp[List.replicate_succ,numL,ih]
theorem zws(B N a P bj x c lo hi bt r n n' Q:Nat)(h:n+c*Q=N+a*P*bt)(hs:hi*B+lo=a*bj+x+c)(hn:n'+x*Q=n+lo*Q)(A:P*r=P*bt+bj*Q):
 n'+hi*(Q*B)=N+a*P*r:=by
 have h1:a*P*r=a*P*bt+a*bj*Q:=by grind
 have h2:hi*(Q*B)+lo*Q=a*bj*Q+x*Q+c*Q:=by grind
 omega
theorem zys(ab H L o c k s s' r q:Nat)(h:ab=L+115792089237316195423570985008687907853269984665640564039457584007913129639936*H)(ho:o+c*115792089237316195423570985008687907853269984665640564039457584007913129639936=38*H+L)(hs:s+k*115792089237316195423570985008687907853269984665640564039457584007913129639936=o+38*c)(D:s'=s+38*k)(hr:s'=r+q*pr)(A:r<pr):r=ab%pr:=by
 simp only[pr]at *;have e:ab=s'+2*57896044618658097711785492504343953926634992332820282019728792003956564819949*(c+k+H):=om;clear h ho hs;omega
def u64l(l:List Nat):List Value:=l.map fun(n:Nat)=>.int .u64 (n:Int)
theorem zbo{l:List Nat}{i:Nat}(hi:i<l.length):(u64l l)[i]? = some (.int .u64 ((l.getD i 0:Nat):Int)):=by
 simp[u64l,List.getD_eq_getElem?_getD,hi]
theorem zdj(l:List Nat)(i n:Nat):(u64l l).set i (.int .u64 (n:Int))=u64l (l.set i n):=by simp[u64l,List.map_set]
theorem zba{l:List Nat}{B:Nat}(hB:0<B)(h:∀x∈l,x<B)(i:Nat):l.getD i 0<B:=by
 rw[gd9]
 by_cases hi:i<l.length
 · rw[ge9 hi];exact h _ (List.getElem_mem hi)
 · simp[List.getElem?_eq_none (Nat.le_of_not_lt hi),hB]
theorem zdy{l:List Nat}{B:Nat}(h:∀x∈l,x<B)(i:Nat){v:Nat}(hv:v<B):∀x∈l.set i v,x<B:=by
 intro x hx
 rcases List.mem_or_eq_of_mem_set hx with h1|rfl
 · exact h x h1
 · exact hv
theorem getD_set_ne(l:List Nat)(i k v:Nat)(h:i≠k):(l.set i v).getD k 0=l.getD k 0:=by
 simp[List.getD_eq_getElem?_getD,List.getElem?_set_ne h]
section
attribute [local go_sem ↓] zc3
theorem szU64(w:World):(sizeOf 32).run Tryz.prog w=.ok 1 w:=by kernel_rfl
theorem agU64(w:World):(isAgg 32).run Tryz.prog w=.ok false w:=by kernel_rfl
theorem lt_i64{a b:Nat}(h:a<8)(h2:b<8):IntKind.i64.wrap ((a:Int)+(b:Int))=((a+b:Nat):Int):=(IntWalk.i64_in _ om).trans om
def MW(w:World)(xa xb:List Nat)(wr:World)(ws:List Nat):Prop :=
 Blk wr w.heap.size 146 (u64l xa)∧Blk wr (w.heap.size+1) 146 (u64l xb)∧Blk wr (w.heap.size+2) 146 (l4 0 0 0 0)∧Blk wr (w.heap.size+3) 229 (u64l ws)∧Below w.heap.size w wr
theorem MW.set{w wr:World}{xa xb ws:List Nat}(h:MW w xa xb wr ws)(i v:Nat):MW w xa xb (wr.setCell ⟨w.heap.size+3,i,none⟩ (.int .u64 (v:Int))) (ws.set i v) :=
 ⟨h.1.far (p:=⟨w.heap.size+3,i,none⟩) sy _,h.2.1.far (p:=⟨w.heap.size+3,i,none⟩) sy _,h.2.2.1.far (p:=⟨w.heap.size+3,i,none⟩) sy _,zdj ws i v ▸ h.2.2.2.1.set_ i (.int .u64 (v:Int)),h.2.2.2.2.setCell (p:=⟨w.heap.size+3,i,none⟩) (Nat.le_add_right _ _) _⟩
theorem MW.drew{w wr:World}{xa xb ws:List Nat}(h:MW w xa xb wr ws):MW w xa xb wr.drew ws:=⟨h.1.drew,h.2.1.drew,h.2.2.1.drew,h.2.2.2.1.drew,h.2.2.2.2.drew⟩
theorem zu9(xa xb:List Nat)(la:xa.length=4)(lb:xb.length=4)(ha:∀x∈xa,x<18446744073709551616)(hb:∀x∈xb,x<18446744073709551616)(w:World):
 Calls Tryz.prog 122 #[.agg (u64l xa).toArray,.agg (u64l xb).toArray] w fun e w'=>e=.returned (.agg (elc (numL 18446744073709551616 xa*numL 18446744073709551616 xb%pr)).toArray)∧Below w.heap.size w w':=by
 have HA:=qh ha;have HB:=qh hb;have d9:=qh la;have d4:=qh lb
 have f9:Hid (MW w xa xb ((((w.alloc (.cells (u64l xa).toArray 146)).alloc (.cells (u64l xb).toArray 146)).alloc (.cells (l4 0 0 0 0).toArray 146)).alloc (.cells (u64l [0,0,0,0,0,0,0,0]).toArray 229)) [0,0,0,0,0,0,0,0]) :=
  ⟨(((Blk.new w _ _).alloc _).alloc _).alloc _,((Blk.new' sy rfl).alloc _).alloc _,(Blk.new' sy rfl).alloc _,Blk.new' sy rfl,((((Below.refl _ w).alloc lr _).alloc sy _).alloc (by simp <;> omega) _).alloc (by simp <;> omega) _⟩
 clear ha hb la lb
 go_enter Tryz.func122, Tryz.ntmps122
 go_wp2
 go_loopg [12] 4 (fun kk q12 wr=>∃(i:Nat) (ws:List Nat),kk=4-i∧q12=.int .i64 (i:Int)∧i≤4∧ws.length=8∧(∀x∈ws,x<18446744073709551616)∧(∀k,i+4≤k→ws.getD k 0=0) ∧
   numL 18446744073709551616 ws=numL 18446744073709551616 (xa.take i)*numL 18446744073709551616 xb∧MW w xa xb wr ws)
 case atStart=>exact⟨0,[0,0,0,0,0,0,0,0],rfl,rfl,by omega,rfl,by simp,by intro k hk;simp[List.getD_eq_getElem?_getD];rcases k with _|_|_|_|_|_|_|_|k <;> simp,by simp[numL],f9.o⟩
 case round =>
  obtain⟨i,ws,e6,rfl,f5,a7,c7,hz,hn,hM⟩:=hrel;clear f9
  rcases Nat.lt_or_ge i 4 with hi|hi
  · have f1:(i:Int)<4:=om
    go_wp2;have HM:=qh hM;have HZ:=qh hz;have HN:=qh hn;have M:=qh c7;clear hM hz hn c7
    go_loopg [7,15] 4 (fun kk q7 q15 wr2=>∃(j c:Nat) (vs:List Nat),kk=4-j∧q15=.int .i64 (j:Int)∧q7=.int .u64 (c:Int)∧j≤4∧vs.length=8∧(∀x∈vs,x<18446744073709551616)∧c<18446744073709551616∧(∀k,i+4≤k→vs.getD k 0=0) ∧
      numL 18446744073709551616 vs+c*18446744073709551616^(i+j)=numL 18446744073709551616 (xa.take i)*numL 18446744073709551616 xb+xa.getD i 0*18446744073709551616^i*numL 18446744073709551616 (xb.take j)∧MW w xa xb wr2 vs)
    case atStart=>exact⟨0,0,ws,rfl,rfl,rfl,by omega,a7,M.o,by omega,HZ.o,by rw[HN.o];simp[numL],HM.o⟩
    case round =>
     obtain⟨j,c,vs,f3,rfl,rfl,j2,d8,c0,hc,c3,V,G⟩:=hrel;clear HM HZ HN M a7
     rcases Nat.lt_or_ge j 4 with hj|hj
     · have c4:(j:Int)<4:=om
       have f2:=lt_i64 (a:=i) (b:=j) om om;have X:(u64l xa)[i]? = some (.int .u64 ((xa.getD i 0:Nat):Int)):=zbo (by rw[d9.o];omega);have a0:(u64l xb)[j]? = some (.int .u64 ((xb.getD j 0:Nat):Int)):=zbo (by rw[d4.o];omega);have b6:(u64l vs)[i+j]? = some (.int .u64 ((vs.getD (i+j) 0:Nat):Int)):=zbo om;obtain⟨x,hx⟩:=ex9 (xa.getD i 0);obtain⟨y,hy⟩:=ex9 (xb.getD j 0);obtain⟨z,c8⟩:=ex9 (vs.getD (i+j) 0);have a8:Hid (x<18446744073709551616∧y<18446744073709551616∧z<18446744073709551616):=⟨by rw[hx];exact zba om HA.o i,by rw[hy];exact zba om HB.o j,by rw[c8];exact zba om c0 _⟩;rw[←hx]at X V;rw[←hy]at a0;rw[←c8]at b6
       have hT:wr.drew.cell? ⟨w.heap.size,i,none⟩=some (.int .u64 (x:Int))∧wr.drew.cell? ⟨w.heap.size+1,j,none⟩=some (.int .u64 (y:Int))∧wr.drew.cell? ⟨w.heap.size+3,i+j,none⟩=some (.int .u64 (z:Int)) :=
        ⟨(G.drew.1.cell i).trans X,(G.drew.2.1.cell j).trans a0,(G.drew.2.2.2.1.cell (i+j)).trans b6⟩
       have c1:=G.drew.2.2.2.1.frozen (i+j);have J:=qh G;have HX:=qh hx;have HY:=qh hy;have i4:=qh c8;have d5:=qh V;have c6:=qh c3;have d7:=qh c0;clear G X a0 b6 hx hy c8 V c3 c0;go_wp2;refine kgo kr 20 (fun w'=>w'.cell? ⟨w.heap.size,i,none⟩=some (.int .u64 (x:Int))∧w'.cell? ⟨w.heap.size+1,j,none⟩=some (.int .u64 (y:Int))∧w'.cell? ⟨w.heap.size+3,i+j,none⟩=some (.int .u64 (z:Int))) hT (fun _ _ _ _ _ h=>h) ?_;refine kp 0 (.int .i64 (i:Int)) rfl kr (fun _=>kr) ?_;refine kp 1 (.int .i64 (j:Int)) rfl kr (fun _=>kr) ?_;refine kp 2 (.int .i64 ((i+j:Nat):Int)) rfl kr (fun _=>Eq.trans (b:=.ok (.value (.int .i64 (IntKind.i64.wrap ((i:Int)+(j:Int))))) _) kr (by rw[f2])) ?_;refine kp 3 (.int .i64 (i:Int)) rfl kr (fun _=>kr) ?_;refine kp 4 (.pointer (some ⟨w.heap.size,i,none⟩)) rfl kr (fun _=>(zc1 (t:=146) (e:=32) (x:=.tmp 2) (y:=.tmp 22) (g:=w.heap.size) (off:=0) (m:=4) (p:=i) rr kr kr hi kr szU64).trans (by rw[Nat.zero_add])) ?_;refine kl 5 (.int .u64 (x:Int)) rfl kr (fun w' hw'=>zci (t:=32) (x:=.tmp 23) (p:=⟨w.heap.size,i,none⟩) rr kr agU64 hw'.1) ?_;refine kp 6 (.int .i64 (j:Int)) rfl kr (fun _=>kr) ?_;refine kp 7 (.pointer (some ⟨(w.heap.size+1),j,none⟩)) rfl kr (fun _=>(zc1 (t:=146) (e:=32) (x:=.tmp 3) (y:=.tmp 25) (g:=(w.heap.size+1)) (off:=0) (m:=4) (p:=j) rr kr kr hj kr szU64).trans (by rw[Nat.zero_add])) ?_;refine kl 8 (.int .u64 (y:Int)) rfl kr (fun w' hw'=>zci (t:=32) (x:=.tmp 26) (p:=⟨(w.heap.size+1),j,none⟩) rr kr agU64 hw'.2.1) ?_;refine kp 9 (.int .i64 (i:Int)) rfl kr (fun _=>kr) ?_;refine kp 10 (.int .i64 (j:Int)) rfl kr (fun _=>kr) ?_;refine kp 11 (.int .i64 ((i+j:Nat):Int)) rfl kr (fun _=>Eq.trans (b:=.ok (.value (.int .i64 (IntKind.i64.wrap ((i:Int)+(j:Int))))) _) kr (by rw[f2])) ?_;refine kp 12 (.pointer (some ⟨(w.heap.size+3),i+j,none⟩)) rfl kr (fun _=>(zc1 (t:=229) (e:=32) (x:=.tmp 5) (y:=.tmp 30) (g:=(w.heap.size+3)) (off:=0) (m:=8) (p:=i+j) rr kr kr om kr szU64).trans (by rw[Nat.zero_add])) ?_;refine kl 13 (.int .u64 (z:Int)) rfl kr (fun w' hw'=>zci (t:=32) (x:=.tmp 31) (p:=⟨(w.heap.size+3),i+j,none⟩) rr kr agU64 hw'.2.2) ?_;refine kp 14 (.int .u64 (c:Int)) rfl kr (fun _=>kr) ?_;intro q8 q9;clear q8 q9;refine AnyK.enter 15 (d:=some 34) (f:=142) (args:=#[.int .u64 (x:Int),.int .u64 (y:Int),.int .u64 (z:Int),.int .u64 (c:Int)]) rr kr kr ?_;refine(znp x y z c a8.o.1 a8.o.2.1 a8.o.2.2 hc _).mono ?_;rintro e w2 ⟨lo,D,rfl,d3,d6,hs,rfl⟩;refine⟨_,rfl,fun _=>hT,?_⟩;refine AnyK.pure 16 (v:=.tuple #[.int .u64 (lo:Int),.int .u64 (D:Int)]) rfl kr (fun _ _ _ h=>h) rfl (fun _=>kr) (fun _=>hT) ?_;refine AnyK.pure 17 (v:=.int .u64 (lo:Int)) rfl kr (fun _ _ _ h=>h) rfl (fun _=>kr) (fun _=>hT) ?_;refine AnyK.pure 18 (v:=.int .u64 (D:Int)) rfl kr (fun _ _ _ h=>h) rfl (fun _=>kr) (fun _=>hT) ?_;refine AnyK.pure 19 (v:=.pointer (some ⟨(w.heap.size+3),i+j,none⟩)) rfl kr (fun _ _ _ h=>h) rfl (fun _=>(zc1 (t:=229) (e:=32) (x:=.tmp 5) (y:=.tmp 21) (g:=(w.heap.size+3)) (off:=0) (m:=8) (p:=i+j) rr kr kr om kr szU64).trans (by rw[Nat.zero_add])) (fun _=>hT) ?_;refine AnyK.store 20 (d:=none) (op:=.store 32 (.tmp 37) (.tmp 35)) kr (fun o ho=>zki (p:=⟨w.heap.size+3,i+j,none⟩) (k:=.u64) (n:=(lo:Int)) ho kr kr szU64 hT.2.2 c1) kr (fun h=>(by cases h)) ?_;refine AnyK.val 21 (v:=.int .u64 (D:Int)) rfl kr rfl kr (fun h=>(by cases h)) ?_;refine AnyK.done kr ?_;have b9:=qh (J.o.drew.set (i+j) lo);have HS:=qh hs;clear hT c1 hs J
       have A:Hid ((∀x∈vs.set (i+j) lo,x<18446744073709551616)∧(∀k,i+4≤k→(vs.set (i+j) lo).getD k 0=0)∧numL 18446744073709551616 (vs.set (i+j) lo)+D*18446744073709551616^(i+(j+1))=numL 18446744073709551616 (xa.take i)*numL 18446744073709551616 xb+xa.getD i 0*18446744073709551616^i*numL 18446744073709551616 (xb.take (j+1))):=by
        refine⟨zdy d7.o _ d3,fun k hk=>(by rw[getD_set_ne _ _ _ _ om];exact c6.o k hk),?_⟩;have e1:=zer 18446744073709551616 vs (i+j) lo om;have e2:=zbp 18446744073709551616 xb j (by rw[d4.o];omega);have e3:=d5.o;rw[←i4.o]at e1;rw[←HY.o]at e2;rw[HX.o]at e3 HS;have e4:(18446744073709551616:Nat)^(i+(j+1))=18446744073709551616^(i+j)*18446744073709551616:=Nat.pow_succ ..;have e5:(18446744073709551616:Nat)^(i+j)=18446744073709551616^i*18446744073709551616^j:=Nat.pow_add ..;rw[e4];refine zws 18446744073709551616 _ _ (18446744073709551616^i) y z c lo D _ _ _ _ (18446744073709551616^(i+j)) e3 HS.o e1 ?_;rw[e2,Nat.mul_add,e5]
        grind
       go_wp2;go_roundg (4-(j+1))
       case measure=>omega
       case rel=>exact⟨j+1,D,vs.set (i+j) lo,rfl,by go_num,rfl,by omega,by simp[d8],A.o.1,d6,A.o.2.1,A.o.2.2,b9.o⟩
     · have c4:¬(j:Int)<4:=om
       have cv:(u64l vs)[i+4]? = some (.int .u64 ((vs.getD (i+4) 0:Nat):Int)):=zbo om;have cc:=(G.2.2.2.1.cell (i+4)).trans cv;have ff:=G.2.2.2.1.frozen (i+4);have b9:=qh (G.set (i+4) c);have f6:j=4:=om
       have A:Hid ((vs.set (i+4) c).length=8∧(∀x∈vs.set (i+4) c,x<18446744073709551616)∧(∀k,i+5≤k→(vs.set (i+4) c).getD k 0=0)∧numL 18446744073709551616 (vs.set (i+4) c)=numL 18446744073709551616 (xa.take (i+1))*numL 18446744073709551616 xb):=by
        subst f6;refine⟨by simp[d8],zdy c0 _ hc,fun k hk=>(by rw[getD_set_ne _ _ _ _ om];exact c3 k om),?_⟩;have e1:=zer 18446744073709551616 vs (i+4) c om;rw[c3 (i+4) om]at e1;have e2:=zbp 18446744073709551616 xa i (by rw[d9.o];omega);rw[tk (l:=xb) (by rw[d4.o];omega)]at V;rw[e2]
        grind
       obtain⟨us,g3⟩:=ex9 (vs.set (i+4) c);obtain⟨u,hu⟩:=ex9 (vs.getD (i+4) 0);rw[←g3]at b9 A;rw[←hu]at cc;clear cv G c3 V c0 f6 g3 hu d8 f1 f3;have j1:wr.cell? ⟨w.heap.size+1+1+1,i+4,none⟩=some (.int .u64 (u:Int)):=cc;have j3:wr.frozen? ⟨w.heap.size+1+1+1,i+4,none⟩=false:=ff;clear cc ff;go_wp2;go_roundg (4-(i+1))
       case measure=>omega
       case rel=>exact⟨i+1,us,rfl,by go_num,by omega,A.o.1,A.o.2.1,fun k hk=>A.o.2.2.1 k om,A.o.2.2.2,b9.o⟩
  · have f1:¬(i:Int)<4:=om
    obtain rfl:i=4:=om;obtain⟨N,hN⟩:=ex9 (wr.heap.size);have HQ:Hid (Blk (wr.alloc (.cells (u64l [0,0,0,0]).toArray 146)) N 146 (u64l [0,0,0,0])∧MW w xa xb (wr.alloc (.cells (u64l [0,0,0,0]).toArray 146)) ws):=⟨Blk.new' hN rfl,hM.1.alloc _,hM.2.1.alloc _,hM.2.2.1.alloc _,hM.2.2.2.1.alloc _,hM.2.2.2.2.alloc hM.2.2.2.2.size _⟩;have I:Hid (w.heap.size+3<N):=by have:=hM.2.2.2.1.lt;show _<_;omega
    have g0:Hid (numL 18446744073709551616 ws=numL 18446744073709551616 xa*numL 18446744073709551616 xb):=by
     rw[tk (l:=xa) (by rw[d9.o];omega)]at hn;exact hn
    have M:=qh c7;clear hM hz hn c7 e6;go_wp2;rw[←hN];clear hN
    go_loopg [10,44] 4 (fun kk q10 q44 wr2=>∃(i c:Nat) (os:List Nat),kk=4-i∧q44=.int .i64 (i:Int)∧q10=.int .u64 (c:Int)∧i≤4∧os.length=4∧(∀x∈os,x<18446744073709551616)∧c<18446744073709551616∧(∀k,i≤k→os.getD k 0=0) ∧
      numL 18446744073709551616 os+c*18446744073709551616^i=38*numL 18446744073709551616 ((ws.drop 4).take i)+numL 18446744073709551616 (ws.take i)∧Blk wr2 N 146 (u64l os)∧MW w xa xb wr2 ws)
    case atStart=>exact⟨0,0,[0,0,0,0],rfl,rfl,rfl,by omega,rfl,by simp,by omega,by intro k hk;rcases k with _|_|_|_|k <;> simp[List.getD_eq_getElem?_getD],by simp[numL],HQ.o.1,HQ.o.2⟩
    case round =>
     obtain⟨i,c,os,e6,rfl,rfl,f5,e0,Y,hc,hz,hn,a9,hM⟩:=hrel;clear HQ
     rcases Nat.lt_or_ge i 4 with hi|hi
     · have c4:(i:Int)<4:=om
       have g5:IntKind.i64.wrap ((i:Int)+4)=((i+4:Nat):Int):=(IntWalk.i64_in _ om).trans om;have X:(u64l ws)[i+4]? = some (.int .u64 ((ws.getD (i+4) 0:Nat):Int)):=zbo om;have a0:(u64l ws)[i]? = some (.int .u64 ((ws.getD i 0:Nat):Int)):=zbo om;have b6:(u64l os)[i]? = some (.int .u64 ((os.getD i 0:Nat):Int)):=zbo om;obtain⟨x,hx⟩:=ex9 (ws.getD (i+4) 0);obtain⟨y,hy⟩:=ex9 (ws.getD i 0);have a8:Hid (x<18446744073709551616∧y<18446744073709551616):=⟨by rw[hx];exact zba om M.o _,by rw[hy];exact zba om M.o _⟩;rw[←hx]at X;rw[←hy]at a0
       have hT:wr.drew.cell? ⟨w.heap.size+3,i+4,none⟩=some (.int .u64 (x:Int))∧wr.drew.cell? ⟨w.heap.size+3,i,none⟩=some (.int .u64 (y:Int)) :=
        ⟨(hM.drew.2.2.2.1.cell (i+4)).trans X,(hM.drew.2.2.2.1.cell i).trans a0⟩
       have g2:=(a9.drew.cell i).trans b6;have c1:=a9.drew.frozen i;have J:=qh hM;have c5:=qh a9;have HX:=qh hx;have HY:=qh hy;have d5:=qh hn;have c6:=qh hz;have d7:=qh Y;clear hM a9 X a0 b6 hx hy hn hz Y;go_wp2;refine kgo kr 14 (fun w'=>w'.cell? ⟨w.heap.size+3,i+4,none⟩=some (.int .u64 (x:Int))∧w'.cell? ⟨w.heap.size+3,i,none⟩=some (.int .u64 (y:Int))) hT (fun _ _ _ _ _ h=>h) ?_;refine kp 0 (.int .i64 (i:Int)) rfl kr (fun _=>kr) ?_;refine kp 1 (.int .i64 (i:Int)) rfl kr (fun _=>kr) ?_;refine kp 2 (.int .i64 ((i+4:Nat):Int)) rfl kr (fun _=>Eq.trans (b:=.ok (.value (.int .i64 (IntKind.i64.wrap ((i:Int)+4)))) _) kr (by rw[g5])) ?_;refine kp 3 (.pointer (some ⟨(w.heap.size+3),i+4,none⟩)) rfl kr (fun _=>(zc1 (t:=229) (e:=32) (x:=.tmp 5) (y:=.tmp 50) (g:=(w.heap.size+3)) (off:=0) (m:=8) (p:=i+4) rr kr kr om kr szU64).trans (by rw[Nat.zero_add])) ?_;refine kl 4 (.int .u64 (x:Int)) rfl kr (fun w' hw'=>zci (t:=32) (x:=.tmp 51) (p:=⟨(w.heap.size+3),i+4,none⟩) rr kr agU64 hw'.1) ?_;refine kp 5 (.int .i64 (i:Int)) rfl kr (fun _=>kr) ?_;refine kp 6 (.pointer (some ⟨(w.heap.size+3),i,none⟩)) rfl kr (fun _=>(zc1 (t:=229) (e:=32) (x:=.tmp 5) (y:=.tmp 53) (g:=(w.heap.size+3)) (off:=0) (m:=8) (p:=i) rr kr kr om kr szU64).trans (by rw[Nat.zero_add])) ?_;refine kl 7 (.int .u64 (y:Int)) rfl kr (fun w' hw'=>zci (t:=32) (x:=.tmp 54) (p:=⟨(w.heap.size+3),i,none⟩) rr kr agU64 hw'.2) ?_;refine kp 8 (.int .u64 (c:Int)) rfl kr (fun _=>kr) ?_;intro q8 q9;clear q8 q9;refine AnyK.enter 9 (d:=some 57) (f:=142) (args:=#[.int .u64 (x:Int),.int .u64 38,.int .u64 (y:Int),.int .u64 (c:Int)]) rr kr kr ?_;refine(znp x 38 y c a8.o.1 om a8.o.2 hc _).mono ?_;rintro e w2 ⟨lo,D,rfl,d3,d6,hs,rfl⟩;refine⟨_,rfl,fun _=>hT,?_⟩;refine AnyK.pure 10 (v:=.tuple #[.int .u64 (lo:Int),.int .u64 (D:Int)]) rfl kr (fun _ _ _ h=>h) rfl (fun _=>kr) (fun _=>hT) ?_;refine AnyK.pure 11 (v:=.int .u64 (lo:Int)) rfl kr (fun _ _ _ h=>h) rfl (fun _=>kr) (fun _=>hT) ?_;refine AnyK.pure 12 (v:=.int .u64 (D:Int)) rfl kr (fun _ _ _ h=>h) rfl (fun _=>kr) (fun _=>hT) ?_;refine AnyK.pure 13 (v:=.pointer (some ⟨N,i,none⟩)) rfl kr (fun _ _ _ h=>h) rfl (fun _=>(zc1 (t:=146) (e:=32) (x:=.tmp 9) (y:=.tmp 48) (g:=N) (off:=0) (m:=4) (p:=i) rr kr kr hi kr szU64).trans (by rw[Nat.zero_add])) (fun _=>hT) ?_;refine AnyK.store 14 (d:=none) (op:=.store 32 (.tmp 60) (.tmp 58)) kr (fun o ho=>zki (p:=⟨N,i,none⟩) (k:=.u64) (n:=(lo:Int)) ho kr kr szU64 g2 c1) kr (fun h=>(by cases h)) ?_;refine AnyK.val 15 (v:=.int .u64 (D:Int)) rfl kr rfl kr (fun h=>(by cases h)) ?_;refine AnyK.done kr ?_;have b9:=qh (show MW w xa xb (wr.drew.setCell ⟨N,i,none⟩ (.int .u64 (lo:Int))) ws from ⟨J.o.drew.1.far (p:=⟨N,i,none⟩) (by have:=I.o;show _≠N;omega) _,J.o.drew.2.1.far (p:=⟨N,i,none⟩) (by have:=I.o;show _≠N;omega) _,J.o.drew.2.2.1.far (p:=⟨N,i,none⟩) (by have:=I.o;show _≠N;omega) _,J.o.drew.2.2.2.1.far (p:=⟨N,i,none⟩) (by have:=I.o;show _≠N;omega) _,J.o.drew.2.2.2.2.setCell (p:=⟨N,i,none⟩) (by have:=I.o;show _≤N;omega) _⟩);have d0:=qh (c5.o.drew.set_ i (.int .u64 (lo:Int)));rw[zdj]at d0
       have A:Hid ((∀x∈os.set i lo,x<18446744073709551616)∧(∀k,i+1≤k→(os.set i lo).getD k 0=0)∧numL 18446744073709551616 (os.set i lo)+D*18446744073709551616^(i+1)=38*numL 18446744073709551616 ((ws.drop 4).take (i+1))+numL 18446744073709551616 (ws.take (i+1))):=by
        refine⟨zdy d7.o _ d3,fun k hk=>(by rw[getD_set_ne _ _ _ _ om];exact c6.o k om),?_⟩;have e1:=zer 18446744073709551616 os i lo om;rw[c6.o i lr]at e1;have e2:=zbp 18446744073709551616 (ws.drop 4) i (by simp;omega);have e8:(ws.drop 4).getD i 0=x:=by rw[HX.o,gd9,List.getElem?_drop,gd9,Nat.add_comm]
        have e3:=zbp 18446744073709551616 ws i om;rw[←HY.o]at e3;rw[e8]at e2;have e4:(18446744073709551616:Nat)^(i+1)=18446744073709551616^i*18446744073709551616:=Nat.pow_succ ..;have e5:=d5.o;rw[e4,e2,e3];clear e4 e2 e3 e8
        grind
       clear hT g2 c1 hs J c5;go_wp2;go_roundg (4-(i+1))
       case measure=>omega
       case rel=>exact⟨i+1,D,os.set i lo,rfl,by go_num,rfl,by omega,by simp[e0],A.o.1,d6,A.o.2.1,A.o.2.2,d0.o,b9.o⟩
     · have c4:¬(i:Int)<4:=om
       obtain rfl:i=4:=om
       obtain⟨o0,o1,o2,o3,rfl⟩:∃o0 o1 o2 o3,os=[o0,o1,o2,o3]:=by
        rcases os with _|⟨o0,_|⟨o1,_|⟨o2,_|⟨o3,_|⟨o4,os⟩⟩⟩⟩⟩ <;> simp at e0
        exact⟨_,_,_,_,rfl⟩
       have x0:=Y o0 sy;have x1:=Y o1 sy;have x2:=Y o2 sy;have x3:=Y o3 sy;obtain⟨H,hH⟩:=ex9 (numL 18446744073709551616 (ws.drop 4));obtain⟨LL,c9⟩:=ex9 (numL 18446744073709551616 (ws.take 4))
       have yH:H<115792089237316195423570985008687907853269984665640564039457584007913129639936:=by
        have:=zfv 18446744073709551616 (ws.drop 4) (fun x hx=>M.o x (List.mem_of_mem_drop hx));rw[←hH,show(ws.drop 4).length=4 by simp[a7]]at this;exact this
       have yL:LL<115792089237316195423570985008687907853269984665640564039457584007913129639936:=by
        have:=zfv 18446744073709551616 (ws.take 4) (fun x hx=>M.o x (List.mem_of_mem_take hx));rw[←c9,show(ws.take 4).length=4 by simp[a7]]at this;exact this
       have yC:numL 18446744073709551616 xa*numL 18446744073709551616 xb=LL+115792089237316195423570985008687907853269984665640564039457584007913129639936*H:=by
        rw[←g0.o,hH,c9];exact zfh 18446744073709551616 ws 4 om
       have yO:v4 o0 o1 o2 o3+c*115792089237316195423570985008687907853269984665640564039457584007913129639936=38*H+LL:=by
        have h1:=hn;rw[tk (l:=ws.drop 4) (by simp[a7]),←hH,←c9]at h1;have h2:numL 18446744073709551616 [o0,o1,o2,o3]=v4 o0 o1 o2 o3:=by simp only[numL,v4];omega
        rw[h2]at h1;exact h1
       have g4:c≤38:=by simp only[v4]at yO;omega
       have HY:=qh (And.intro yC yO);have e7:Blk wr N 146 (l4 o0 o1 o2 o3):=a9;have c5:=qh e7;have HR:=qh hM.2.2.1;have HE:=qh hM.2.2.2.2;have h3:=el_ld e7;obtain⟨n1,e9⟩:=ex9 (38*c);have e1:(38:Int)*(c:Int)=(n1:Int):=om;have t0:(0:Int)≤(c:Int):=om;have t1:(c:Int)≤38:=om;have i9:=qh (fun W=>zgn o0 o1 o2 o3 n1 x0 x1 x2 x3 om W);have i0:Hid (n1=38*c∧c≤38∧o0<18446744073709551616∧o1<18446744073709551616∧o2<18446744073709551616∧o3<18446744073709551616):=⟨e9,g4,x0,x1,x2,x3⟩;clear e7 a9 hM Y hz hn e6 hH c9 yH yL yC yO g4 x0 x1 x2 x3 e9 hc e0 f5 hi M g0 a7
       go_upto_region 21 with (first
        | (go_at_call 117;(with_reducible refine(i9.o _).mono ?_);rintro e w1 ⟨s0,s1,s2,s3,k,rfl,hv,r⟩;have g9:=qbl c5 r;have h7:=qbl HR r;have g1:=qtr HE r;have b7:=qh hv;clear r hv)
        | (refine zab rfl 146 (.tmp 9) (.tmp 67) rfl N (l4 s0 s1 s2 s3) rr rr 146 _ g9.o (by exact hdEl) (zei _ _ _ _) rfl ?_;intro w2 U E;have f4:=qh U;have i8:=qh (E.below g1.o (Nat.le_of_lt (Nat.lt_of_le_of_lt (Nat.le_add_right _ 3) I.o)) g1.o.size);have h6:=qh (E.blk h7.o (Nat.ne_of_lt (Nat.lt_trans om I.o)));clear U E))
       clear h3 e1 t0 t1;have k1:=b7.o.2.2.2.2.1;obtain⟨n2,V⟩:=ex9 (38*k);have e2:(38:Int)*(k:Int)=(n2:Int):=om;have g7:(0:Int)≤(k:Int):=om;have h8:(k:Int)≤1:=om;have h4:=qh (fun W=>zgn s0 s1 s2 s3 n2 b7.o.1 b7.o.2.1 b7.o.2.2.1 b7.o.2.2.2.1 om W);have i5:=qh V;have f0:=el_ld f4.o;clear k1 V
       go_upto_region 22 with (first
        | (go_at_call 117;(with_reducible refine(h4.o _).mono ?_);rintro e w3 ⟨z0,z1,z2,z3,k2,rfl,hv,r⟩;have i7:=qbl f4 r;have i1:=qbl h6 r;have f7:=qtr i8 r;have c2:=qh hv;clear r hv)
        | (refine zab rfl 146 (.tmp 9) (.tmp 74) rfl N (l4 z0 z1 z2 z3) rr rr 146 _ i7.o (by exact hdEl) (zei _ _ _ _) rfl ?_;intro w4 U E;have h9:=qh U;have i3:=qh (E.below f7.o (Nat.le_of_lt (Nat.lt_of_le_of_lt (Nat.le_add_right _ 3) I.o)) f7.o.size);have h0:=qh (E.blk i1.o (Nat.ne_of_lt (Nat.lt_trans om I.o)));clear U E))
       clear f0 e2 g7 h8;have j0:=el_ld h9.o;have h5:=qh (fun W=>zfi z0 z1 z2 z3 c2.o.1 c2.o.2.1 c2.o.2.2.1 c2.o.2.2.2.1 W)
       go_wp2_with (first
        | ((with_reducible refine(h5.o _).mono ?_);rintro e w5 ⟨r0,r1,r2,r3,q,rfl,hv,r⟩;have i6:=qbl h0 r;have f8:=qtr i3 r;have g6:=qh hv;clear r hv)
        | (refine zab rfl 146 (.tmp 4) (.tmp 77) rfl (w.heap.size+2) (l4 r0 r1 r2 r3) rr rr 146 _ i6.o (by exact hdEl) (zei _ _ _ _) rfl ?_;intro w6 U E;have g8:=qh U;have i2:=qh (E.below f8.o (Nat.le_add_right _ 2) f8.o.size);clear U E))
       refine bodyPost_ret (zan rfl _ _ _ _ rfl g8.o _ Tryz.underlying146 rfl (by exact hdEl)) rfl ⟨?_,i2.o⟩;have a1:=i0.o;have a2:=i5.o;have a3:=b7.o;have a4:=c2.o;have a5:=g6.o;have a6:=HY.o;rw[l4_of _ _ _ _ a5.1 a5.2.1 a5.2.2.1 a5.2.2.2.1];have b1:v4 s0 s1 s2 s3+k*115792089237316195423570985008687907853269984665640564039457584007913129639936=v4 o0 o1 o2 o3+38*c:=by simp only[v4];have:=a3.2.2.2.2.2;omega
       have b2:v4 z0 z1 z2 z3+k2*115792089237316195423570985008687907853269984665640564039457584007913129639936=v4 s0 s1 s2 s3+38*k:=by simp only[v4];have:=a4.2.2.2.2.2;omega
       have b3:v4 s0 s1 s2 s3<115792089237316195423570985008687907853269984665640564039457584007913129639936:=by simp only[v4];omega
       have b4:v4 o0 o1 o2 o3<115792089237316195423570985008687907853269984665640564039457584007913129639936:=by simp only[v4];omega
       have b5:v4 z0 z1 z2 z3=v4 s0 s1 s2 s3+38*k:=om;rw[zys _ H LL (v4 o0 o1 o2 o3) c k (v4 s0 s1 s2 s3) (v4 z0 z1 z2 z3) (v4 r0 r1 r2 r3) q a6.1 a6.2 b1 b5 a5.2.2.2.2.2 a5.2.2.2.2.1]
end
def dig:Nat→Nat→List Nat
 | 0,_=>[]
 | k+1,n=>n%4294967296 :: dig k (n/4294967296)
theorem zcj:∀k n,(dig k n).length=k
 | 0,_=>rfl
 | k+1,n=>by rw[dig,List.length_cons,zcj]
theorem zh3:∀k n,∀x∈dig k n,x<4294967296
 | 0,_,x,h=>by cases h
 | k+1,n,x,h=>by
  rw[dig,List.mem_cons]at h
  rcases h with rfl|h
  · exact Nat.mod_lt _ om
  · exact zh3 k _ x h
theorem zn5:∀k n,numL 4294967296 (dig k n)=n%4294967296^k
 | 0,n=>by rw[dig,numL,Nat.pow_zero,Nat.mod_one]
 | k+1,n=>by rw[dig,numL,zn5 k,Nat.pow_succ,Nat.mul_comm (4294967296^k),Nat.mod_mul]
theorem zor:∀l:List Nat,(∀x∈l,x<4294967296)→dig l.length (numL 4294967296 l)=l
 | [],_=>rfl
 | x :: xs,h=>by
  have hx:=h x List.mem_cons_self;rw[List.length_cons,dig,numL];have e1:(x+4294967296*numL 4294967296 xs)%4294967296=x:=om;have e2:(x+4294967296*numL 4294967296 xs)/4294967296=numL 4294967296 xs:=om;rw[e1,e2,zor xs fun y hy=>h y (List.mem_cons_of_mem _ hy)]
theorem zdg(B:Nat):∀(l:List Nat) (x:Nat),numL B (l++[x])=numL B l+x*B^l.length
 | [],x=>by simp[numL]
 | y :: l,x=>by
  have ih:=zdg B l x;simp only[List.cons_append,numL,ih,List.length_cons,Nat.pow_succ]
  grind
theorem zft{l:List Nat}{B x:Nat}(h:∀y∈l,y<B)(hx:x<B):∀y∈l++[x],y<B:=by
 intro y hy
 rcases List.mem_append.1 hy with hy|hy
 · exact h y hy
 · simp only[List.mem_cons,List.not_mem_nil,or_false]at hy
   rw[hy];exact hx
theorem ze0(ds:List Nat)(i n v:Nat)(hi:ds.length=i)(h:i<n):(ds++List.replicate (n-i) 0).set i v=(ds++[v])++List.replicate (n-(i+1)) 0:=by
 rw[List.set_append_right _ _ om,hi,Nat.sub_self,show n-i=n-(i+1)+1 by omega,List.replicate_succ,List.set_cons_zero,as9]
 rfl
def u32d(l:List Nat):List Value:=l.map fun(n:Nat)=>.int .u32 (n:Int)
theorem ze6(l:List Nat):(u32d l).length=l.length:=by simp[u32d]
theorem zb7{l:List Nat}{i:Nat}(hi:i<l.length):(u32d l)[i]? = some (.int .u32 ((l.getD i 0:Nat):Int)):=by
 simp[u32d,List.getD_eq_getElem?_getD,hi]
theorem zgh(l:List Nat)(i n:Nat):(u32d l).set i (.int .u32 (n:Int))=u32d (l.set i n):=by simp[u32d,List.map_set]
theorem znk(l:List Nat):∀v∈u32d l,v.oneCell'=true:=by
 intro v hv;obtain⟨n,_,rfl⟩:=List.mem_map.1 hv
 rfl
theorem zt1(l:List Nat):∀v∈u64l l,v.oneCell'=true:=by
 intro v hv;obtain⟨n,_,rfl⟩:=List.mem_map.1 hv
 rfl
theorem zgg(l:List Nat):(u64l l).length=l.length:=by simp[u64l]
theorem zeh(v:Value):Instr.loadAt 166 v=ldAt 166 v:=rfl
theorem zka(v:Value):Instr.loadAt 215 v=ldAt 215 v:=rfl
theorem hdN8:∀k,k=8→(Tryz.prog.info? 166).map (·.size)=some k:=by
 rintro k rfl
 kernel_rfl
theorem hdW17:∀k,k=17→(Tryz.prog.info? 215).map (·.size)=some k:=by
 rintro k rfl
 kernel_rfl
theorem n8_ld{w:World}{g:Nat}{t:TypeId}{l:List Nat}(h:Blk w g t (u32d l))(hl:l.length=8):(ldAt 166 (.pointer (some ⟨g,0,none⟩))).run Tryz.prog w=.ok (.agg (u32d l).toArray) w :=
 zal h 166 0 (u32d l) (by rw[List.drop_zero];exact tk lr) _ Tryz.underlying166 rfl (hdN8 _ (by rw[ze6,hl]))
theorem zni{w:World}{g:Nat}{t:TypeId}{l:List Nat}(h:Blk w g t (u64l l))(hl:l.length=17):(ldAt 215 (.pointer (some ⟨g,0,none⟩))).run Tryz.prog w=.ok (.agg (u64l l).toArray) w :=
 zal h 215 0 (u64l l) (by rw[List.drop_zero];exact tk lr) _ Tryz.underlying215 rfl (hdW17 _ (by rw[zgg,hl]))
def o8:List Value:=u32d (List.replicate 8 0)
def o17:List Value:=u64l (List.replicate 17 0)
