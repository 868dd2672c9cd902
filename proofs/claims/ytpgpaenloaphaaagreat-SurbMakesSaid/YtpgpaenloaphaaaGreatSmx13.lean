/- Part of the proof. -/
import Derived.Deep.DeepCutAuto
import Derived.Test.YtpgpaenloaphaaaGreatSmx11
set_option maxRecDepth 100000
set_option maxHeartbeats 0
namespace Go.Proofs.YtpgpaenloaphaaaGreat
open Go.RowKit
theorem of_any(n:Nat)(w:World):
 Calls Tryz.prog 112 #[.int .u64 (n:Int)] w fun e w'=>e=.returned (.agg (l4 n 0 0 0).toArray)∧Below w.heap.size w w':=by
 go_enter Tryz.func112, Tryz.ntmps112
 go_wp2;refine bodyPost_ret (zam rfl _ w.heap.size 184 (l4 n 0 0 0) rfl ?_ _ Tryz.underlying184 rfl (by exact hdEl)) rfl ⟨rfl,?_⟩
 · exact Blk.new' rfl rfl
 · exact(Below.refl _ w).alloc lr _
def elc(n:Nat):List Value:=l4 (n%18446744073709551616) (n/18446744073709551616%18446744073709551616) (n/340282366920938463463374607431768211456%18446744073709551616) (n/6277101735386680763835789423207666416102355444464034512896%18446744073709551616)
theorem l4_of(a b c d:Nat)(h0:a<18446744073709551616)(h1:b<18446744073709551616)(h2:c<18446744073709551616)(h3:d<18446744073709551616):l4 a b c d=elc (v4 a b c d):=by
 simp only[elc,v4]
 congr 1 <;> omega
theorem v4_of(n:Nat)(h:n<115792089237316195423570985008687907853269984665640564039457584007913129639936):v4 (n%18446744073709551616) (n/18446744073709551616%18446744073709551616) (n/340282366920938463463374607431768211456%18446744073709551616) (n/6277101735386680763835789423207666416102355444464034512896%18446744073709551616)=n:=by
 simp only[v4];omega
theorem zvf(n v q:Nat)(h:n=v+q*pr)(hv:v<pr):v=n%pr:=by simp only[pr]at *;omega
theorem sub_of(a b r q q':Nat)(h:a+q'*pr=r+b+q*pr)(hv:r<pr):r=(a+(pr-b%pr))%pr:=by simp only[pr]at *;omega
theorem pr_lt(n:Nat):n%pr<115792089237316195423570985008687907853269984665640564039457584007913129639936:=by simp only[pr];omega
theorem zdb(n:Nat):n%pr<pr:=Nat.mod_lt _ (by simp[pr])
theorem za1(n:Nat):∀v∈elc n,v.oneCell'=true:=zec _ _ _ _
theorem zji(n:Nat)(hn:n<115792089237316195423570985008687907853269984665640564039457584007913129639936)(w:World):
 Calls Tryz.prog 141 #[.agg (elc n).toArray] w fun e w'=>e=.returned (.agg (elc (n%pr)).toArray)∧Below w.heap.size w w':=by
 refine(zfa _ _ _ _ (Nat.mod_lt _ om) (Nat.mod_lt _ om) (Nat.mod_lt _ om) (Nat.mod_lt _ om) w).mono ?_;rintro e w' ⟨s0,s1,s2,s3,q,rfl,⟨h0,h1,h2,h3,h4,h5⟩,hB⟩;rw[v4_of n hn]at h5;exact⟨by rw[l4_of _ _ _ _ h0 h1 h2 h3,zvf _ _ _ h5 h4],hB⟩
theorem add_el(a b:Nat)(ha:a<115792089237316195423570985008687907853269984665640564039457584007913129639936)(hb:b<115792089237316195423570985008687907853269984665640564039457584007913129639936)(h:a+b<115792089237316195423570985008687907853269984665640564039457584007913129639936)(w:World):
 Calls Tryz.prog 167 #[.agg (elc a).toArray,.agg (elc b).toArray] w fun e w'=>e=.returned (.agg (elc ((a+b)%pr)).toArray)∧Below w.heap.size w w':=by
 refine(zf1 _ _ _ _ _ _ _ _ (Nat.mod_lt _ om) (Nat.mod_lt _ om) (Nat.mod_lt _ om) (Nat.mod_lt _ om) (Nat.mod_lt _ om) (Nat.mod_lt _ om) (Nat.mod_lt _ om) (Nat.mod_lt _ om) (by rw[v4_of a ha,v4_of b hb];exact h) w).mono ?_;rintro e w' ⟨s0,s1,s2,s3,q,rfl,⟨h0,h1,h2,h3,h4,h5⟩,hB⟩;rw[v4_of a ha,v4_of b hb]at h5;exact⟨by rw[l4_of _ _ _ _ h0 h1 h2 h3,zvf _ _ _ h5 h4],hB⟩
theorem of_el(n:Nat)(hn:n<18446744073709551616)(w:World):
 Calls Tryz.prog 112 #[.int .u64 (n:Int)] w fun e w'=>e=.returned (.agg (elc n).toArray)∧Below w.heap.size w w':=by
 refine(of_any n w).mono ?_;rintro e w' ⟨rfl,hB⟩;exact⟨by rw[l4_of n 0 0 0 hn om om om];simp[v4],hB⟩
theorem zbg{w:World}{g:Nat}{t:TypeId}{n:Nat}(hb:Blk w g t (elc n)):(ldAt 184 (.pointer (some ⟨g,0,none⟩))).run Tryz.prog w=.ok (.agg (elc n).toArray) w:=el_ld hb
def numL(B:Nat):List Nat→Nat
 | []=>0
 | x :: xs=>x+B*numL B xs
theorem zel(B:Nat):∀(l:List Nat) (k v:Nat),k<l.length→numL B (l.set k v)+l.getD k 0*B^k=numL B l+v*B^k
 | [],k,v,h=>by simp at h
 | x :: xs,0,v,h=>by simp[numL];omega
 | x :: xs,k+1,v,h=>by
  have ih:=zel B xs k v (by simpa using h);simp only[List.set_cons_succ,numL,List.getD_cons_succ,Nat.pow_succ]
  grind
theorem zbp(B:Nat):∀(l:List Nat) (k:Nat),k<l.length→numL B (l.take (k+1))=numL B (l.take k)+l.getD k 0*B^k
 | [],k,h=>by simp at h
 | x :: xs,0,h=>by simp[numL]
 | x :: xs,k+1,h=>by
  have ih:=zbp B xs k (by simpa using h);simp only[List.take_succ_cons,numL,List.getD_cons_succ,Nat.pow_succ]
  grind
theorem ze9(B:Nat):∀(l:List Nat) (k:Nat),k≤l.length→numL B l=numL B (l.take k)+B^k*numL B (l.drop k)
 | l,0,h=>by simp[numL]
 | [],k+1,h=>by simp at h
 | x :: xs,k+1,h=>by
  have ih:=ze9 B xs k (by simpa using h);simp only[List.take_succ_cons,List.drop_succ_cons,numL,Nat.pow_succ]
  grind
theorem zfn(B:Nat):∀(l:List Nat),(∀x∈l,x<B)→numL B l<B^l.length
 | [],_=>by simp[numL]
 | x :: xs,h=>by
  have ih:=zfn B xs (fun y hy=>h y (List.mem_cons_of_mem _ hy));have hx:=h x List.mem_cons_self;simp only[numL,List.length_cons,Nat.pow_succ]
  have h1:B*numL B xs+B≤B*B^xs.length:=by
   have:=Nat.mul_le_mul_left B ih;rw[Nat.mul_succ]at this;exact this
  have h2:B*B^xs.length=B^xs.length*B:=Nat.mul_comm _ _;omega
theorem zg9(B n:Nat):numL B (List.replicate n 0)=0:=by
 induction n with
 | zero=>rfl
 | succ n ih=>simp[List.replicate_succ,numL,ih]
theorem zve(B N a P bj x c lo hi bt bt' n n' Q:Nat)(h:n+c*Q=N+a*P*bt)(hs:hi*B+lo=a*bj+x+c)(hn:n'+x*Q=n+lo*Q)(hbt:P*bt'=P*bt+bj*Q):
 n'+hi*(Q*B)=N+a*P*bt':=by
 have h1:a*P*bt'=a*P*bt+a*bj*Q:=by grind
 have h2:hi*(Q*B)+lo*Q=a*bj*Q+x*Q+c*Q:=by grind
 omega
theorem zw9(ab H L o c k s s' r q:Nat)(h:ab=L+115792089237316195423570985008687907853269984665640564039457584007913129639936*H)(ho:o+c*115792089237316195423570985008687907853269984665640564039457584007913129639936=38*H+L)(hs:s+k*115792089237316195423570985008687907853269984665640564039457584007913129639936=o+38*c)(hs':s'=s+38*k)(hr:s'=r+q*pr)(hrp:r<pr):r=ab%pr:=by
 simp only[pr]at *;have e:ab=s'+2*57896044618658097711785492504343953926634992332820282019728792003956564819949*(c+k+H):=om;clear h ho hs;omega
def u64l(l:List Nat):List Value:=l.map fun(n:Nat)=>.int .u64 (n:Int)
theorem zbo{l:List Nat}{i:Nat}(hi:i<l.length):(u64l l)[i]? = some (.int .u64 ((l.getD i 0:Nat):Int)):=by
 simp[u64l,List.getD_eq_getElem?_getD,hi]
theorem zdi(l:List Nat)(i n:Nat):(u64l l).set i (.int .u64 (n:Int))=u64l (l.set i n):=by simp[u64l,List.map_set]
theorem za8{l:List Nat}{B:Nat}(hB:0<B)(h:∀x∈l,x<B)(i:Nat):l.getD i 0<B:=by
 rw[gd9]
 by_cases hi:i<l.length
 · rw[ge9 hi];exact h _ (List.getElem_mem hi)
 · simp[List.getElem?_eq_none (Nat.le_of_not_lt hi),hB]
theorem zds{l:List Nat}{B:Nat}(h:∀x∈l,x<B)(i:Nat){v:Nat}(hv:v<B):∀x∈l.set i v,x<B:=by
 intro x hx
 rcases List.mem_or_eq_of_mem_set hx with h1|rfl
 · exact h x h1
 · exact hv
theorem getD_set_ne(l:List Nat)(i k v:Nat)(h:i≠k):(l.set i v).getD k 0=l.getD k 0:=by
 simp[List.getD_eq_getElem?_getD,List.getElem?_set_ne h]
section
attribute [local go_sem ↓] zc1
theorem szU64(w:World):(sizeOf 45).run Tryz.prog w=.ok 1 w:=by kernel_rfl
theorem agU64(w:World):(isAgg 45).run Tryz.prog w=.ok false w:=by kernel_rfl
theorem lt_i64{a b:Nat}(h:a<8)(h2:b<8):IntKind.i64.wrap ((a:Int)+(b:Int))=((a+b:Nat):Int):=(IntWalk.i64_in _ om).trans om
def MW(w:World)(xa xb:List Nat)(wr:World)(ws:List Nat):Prop :=
 Blk wr w.heap.size 184 (u64l xa)∧Blk wr (w.heap.size+1) 184 (u64l xb)∧Blk wr (w.heap.size+2) 184 (l4 0 0 0 0)∧Blk wr (w.heap.size+3) 256 (u64l ws)∧Below w.heap.size w wr
theorem MW.set{w wr:World}{xa xb ws:List Nat}(h:MW w xa xb wr ws)(i v:Nat):MW w xa xb (wr.setCell ⟨w.heap.size+3,i,none⟩ (.int .u64 (v:Int))) (ws.set i v) :=
 ⟨h.1.far (p:=⟨w.heap.size+3,i,none⟩) sy _,h.2.1.far (p:=⟨w.heap.size+3,i,none⟩) sy _,h.2.2.1.far (p:=⟨w.heap.size+3,i,none⟩) sy _,zdi ws i v ▸ h.2.2.2.1.set_ i (.int .u64 (v:Int)),h.2.2.2.2.setCell (p:=⟨w.heap.size+3,i,none⟩) (Nat.le_add_right _ _) _⟩
theorem MW.drew{w wr:World}{xa xb ws:List Nat}(h:MW w xa xb wr ws):MW w xa xb wr.drew ws:=⟨h.1.drew,h.2.1.drew,h.2.2.1.drew,h.2.2.2.1.drew,h.2.2.2.2.drew⟩
theorem zt1(xa xb:List Nat)(la:xa.length=4)(lb:xb.length=4)(ha:∀x∈xa,x<18446744073709551616)(hb:∀x∈xb,x<18446744073709551616)(w:World):
 Calls Tryz.prog 146 #[.agg (u64l xa).toArray,.agg (u64l xb).toArray] w fun e w'=>e=.returned (.agg (elc (numL 18446744073709551616 xa*numL 18446744073709551616 xb%pr)).toArray)∧Below w.heap.size w w':=by
 have HA:=qh ha;have HB:=qh hb;have HLA:=qh la;have HLB:=qh lb
 have HM0:Hid (MW w xa xb ((((w.alloc (.cells (u64l xa).toArray 184)).alloc (.cells (u64l xb).toArray 184)).alloc (.cells (l4 0 0 0 0).toArray 184)).alloc (.cells (u64l [0,0,0,0,0,0,0,0]).toArray 256)) [0,0,0,0,0,0,0,0]) :=
  ⟨(((Blk.new w _ _).alloc _).alloc _).alloc _,((Blk.new' sy rfl).alloc _).alloc _,(Blk.new' sy rfl).alloc _,Blk.new' sy rfl,((((Below.refl _ w).alloc lr _).alloc sy _).alloc (by simp <;> omega) _).alloc (by simp <;> omega) _⟩
 clear ha hb la lb
 go_enter Tryz.func146, Tryz.ntmps146
 go_wp2
 go_loopg [12] 4 (fun kk q12 wr=>∃(i:Nat) (ws:List Nat),kk=4-i∧q12=.int .i64 (i:Int)∧i≤4∧ws.length=8∧(∀x∈ws,x<18446744073709551616)∧(∀k,i+4≤k→ws.getD k 0=0) ∧
   numL 18446744073709551616 ws=numL 18446744073709551616 (xa.take i)*numL 18446744073709551616 xb∧MW w xa xb wr ws)
 case atStart=>exact⟨0,[0,0,0,0,0,0,0,0],rfl,rfl,by omega,rfl,by simp,by intro k hk;simp[List.getD_eq_getElem?_getD];rcases k with _|_|_|_|_|_|_|_|k <;> simp,by simp[numL],HM0.out⟩
 case round =>
  obtain⟨i,ws,hgk,rfl,hi4,hl8,hws,hz,hn,hM⟩:=hrel;clear HM0
  rcases Nat.lt_or_ge i 4 with hi|hi
  · have hlt:(i:Int)<4:=om
    go_wp2;have HM:=qh hM;have HZ:=qh hz;have HN:=qh hn;have HWS:=qh hws;clear hM hz hn hws
    go_loopg [7,15] 4 (fun kk q7 q15 wr2=>∃(j c:Nat) (vs:List Nat),kk=4-j∧q15=.int .i64 (j:Int)∧q7=.int .u64 (c:Int)∧j≤4∧vs.length=8∧(∀x∈vs,x<18446744073709551616)∧c<18446744073709551616∧(∀k,i+4≤k→vs.getD k 0=0) ∧
      numL 18446744073709551616 vs+c*18446744073709551616^(i+j)=numL 18446744073709551616 (xa.take i)*numL 18446744073709551616 xb+xa.getD i 0*18446744073709551616^i*numL 18446744073709551616 (xb.take j)∧MW w xa xb wr2 vs)
    case atStart=>exact⟨0,0,ws,rfl,rfl,rfl,by omega,hl8,HWS.out,by omega,HZ.out,by rw[HN.out];simp[numL],HM.out⟩
    case round =>
     obtain⟨j,c,vs,hgk2,rfl,rfl,hj4,hv8,hvs,hc,hz2,hn2,hM2⟩:=hrel;clear HM HZ HN HWS hl8
     rcases Nat.lt_or_ge j 4 with hj|hj
     · have hlt2:(j:Int)<4:=om
       have hij:=lt_i64 (a:=i) (b:=j) om om;have hca:(u64l xa)[i]? = some (.int .u64 ((xa.getD i 0:Nat):Int)):=zbo (by rw[HLA.out];omega);have hcb:(u64l xb)[j]? = some (.int .u64 ((xb.getD j 0:Nat):Int)):=zbo (by rw[HLB.out];omega);have hcv:(u64l vs)[i+j]? = some (.int .u64 ((vs.getD (i+j) 0:Nat):Int)):=zbo om;obtain⟨x,hx⟩:=ex9 (xa.getD i 0);obtain⟨y,hy⟩:=ex9 (xb.getD j 0);obtain⟨z,hzz⟩:=ex9 (vs.getD (i+j) 0);have HXL:Hid (x<18446744073709551616∧y<18446744073709551616∧z<18446744073709551616):=⟨by rw[hx];exact za8 om HA.out i,by rw[hy];exact za8 om HB.out j,by rw[hzz];exact za8 om hvs _⟩;rw[←hx]at hca hn2;rw[←hy]at hcb;rw[←hzz]at hcv
       have hT:wr.drew.cell? ⟨w.heap.size,i,none⟩=some (.int .u64 (x:Int))∧wr.drew.cell? ⟨w.heap.size+1,j,none⟩=some (.int .u64 (y:Int))∧wr.drew.cell? ⟨w.heap.size+3,i+j,none⟩=some (.int .u64 (z:Int)) :=
        ⟨(hM2.drew.1.cell i).trans hca,(hM2.drew.2.1.cell j).trans hcb,(hM2.drew.2.2.2.1.cell (i+j)).trans hcv⟩
       have hff:=hM2.drew.2.2.2.1.frozen (i+j);have HM2:=qh hM2;have HX:=qh hx;have HY:=qh hy;have HZZ:=qh hzz;have HN2:=qh hn2;have HZ2:=qh hz2;have HVS:=qh hvs;clear hM2 hca hcb hcv hx hy hzz hn2 hz2 hvs;go_wp2;refine kgo kr 20 (fun w'=>w'.cell? ⟨w.heap.size,i,none⟩=some (.int .u64 (x:Int))∧w'.cell? ⟨w.heap.size+1,j,none⟩=some (.int .u64 (y:Int))∧w'.cell? ⟨w.heap.size+3,i+j,none⟩=some (.int .u64 (z:Int))) hT (fun _ _ _ _ _ h=>h) ?_;refine kp 0 (.int .i64 (i:Int)) rfl kr (fun _=>kr) ?_;refine kp 1 (.int .i64 (j:Int)) rfl kr (fun _=>kr) ?_;refine kp 2 (.int .i64 ((i+j:Nat):Int)) rfl kr (fun _=>Eq.trans (b:=.ok (.value (.int .i64 (IntKind.i64.wrap ((i:Int)+(j:Int))))) _) kr (by rw[hij])) ?_;refine kp 3 (.int .i64 (i:Int)) rfl kr (fun _=>kr) ?_;refine kp 4 (.pointer (some ⟨w.heap.size,i,none⟩)) rfl kr (fun _=>(zcz (t:=184) (e:=45) (x:=.tmp 2) (y:=.tmp 22) (g:=w.heap.size) (off:=0) (m:=4) (p:=i) rr kr kr hi kr szU64).trans (by rw[Nat.zero_add])) ?_;refine kl 5 (.int .u64 (x:Int)) rfl kr (fun w' hw'=>zca (t:=45) (x:=.tmp 23) (p:=⟨w.heap.size,i,none⟩) rr kr agU64 hw'.1) ?_;refine kp 6 (.int .i64 (j:Int)) rfl kr (fun _=>kr) ?_;refine kp 7 (.pointer (some ⟨(w.heap.size+1),j,none⟩)) rfl kr (fun _=>(zcz (t:=184) (e:=45) (x:=.tmp 3) (y:=.tmp 25) (g:=(w.heap.size+1)) (off:=0) (m:=4) (p:=j) rr kr kr hj kr szU64).trans (by rw[Nat.zero_add])) ?_;refine kl 8 (.int .u64 (y:Int)) rfl kr (fun w' hw'=>zca (t:=45) (x:=.tmp 26) (p:=⟨(w.heap.size+1),j,none⟩) rr kr agU64 hw'.2.1) ?_;refine kp 9 (.int .i64 (i:Int)) rfl kr (fun _=>kr) ?_;refine kp 10 (.int .i64 (j:Int)) rfl kr (fun _=>kr) ?_;refine kp 11 (.int .i64 ((i+j:Nat):Int)) rfl kr (fun _=>Eq.trans (b:=.ok (.value (.int .i64 (IntKind.i64.wrap ((i:Int)+(j:Int))))) _) kr (by rw[hij])) ?_;refine kp 12 (.pointer (some ⟨(w.heap.size+3),i+j,none⟩)) rfl kr (fun _=>(zcz (t:=256) (e:=45) (x:=.tmp 5) (y:=.tmp 30) (g:=(w.heap.size+3)) (off:=0) (m:=8) (p:=i+j) rr kr kr om kr szU64).trans (by rw[Nat.zero_add])) ?_;refine kl 13 (.int .u64 (z:Int)) rfl kr (fun w' hw'=>zca (t:=45) (x:=.tmp 31) (p:=⟨(w.heap.size+3),i+j,none⟩) rr kr agU64 hw'.2.2) ?_;refine kp 14 (.int .u64 (c:Int)) rfl kr (fun _=>kr) ?_;intro q8 q9;clear q8 q9;refine AnyK.enter 15 (d:=some 34) (f:=169) (args:=#[.int .u64 (x:Int),.int .u64 (y:Int),.int .u64 (z:Int),.int .u64 (c:Int)]) rr kr kr ?_;refine(zmt x y z c HXL.out.1 HXL.out.2.1 HXL.out.2.2 hc _).mono ?_;rintro e w2 ⟨lo,hi',rfl,hlo,hhi,hs,rfl⟩;refine⟨_,rfl,fun _=>hT,?_⟩;refine AnyK.pure 16 (v:=.tuple #[.int .u64 (lo:Int),.int .u64 (hi':Int)]) rfl kr (fun _ _ _ h=>h) rfl (fun _=>kr) (fun _=>hT) ?_;refine AnyK.pure 17 (v:=.int .u64 (lo:Int)) rfl kr (fun _ _ _ h=>h) rfl (fun _=>kr) (fun _=>hT) ?_;refine AnyK.pure 18 (v:=.int .u64 (hi':Int)) rfl kr (fun _ _ _ h=>h) rfl (fun _=>kr) (fun _=>hT) ?_;refine AnyK.pure 19 (v:=.pointer (some ⟨(w.heap.size+3),i+j,none⟩)) rfl kr (fun _ _ _ h=>h) rfl (fun _=>(zcz (t:=256) (e:=45) (x:=.tmp 5) (y:=.tmp 21) (g:=(w.heap.size+3)) (off:=0) (m:=8) (p:=i+j) rr kr kr om kr szU64).trans (by rw[Nat.zero_add])) (fun _=>hT) ?_;refine AnyK.store 20 (d:=none) (op:=.store 45 (.tmp 37) (.tmp 35)) kr (fun o ho=>zgf (p:=⟨w.heap.size+3,i+j,none⟩) (k:=.u64) (n:=(lo:Int)) ho kr kr szU64 hT.2.2 hff) kr (fun h=>(by cases h)) ?_;refine AnyK.val 21 (v:=.int .u64 (hi':Int)) rfl kr rfl kr (fun h=>(by cases h)) ?_;refine AnyK.done kr ?_;have HM3:=qh (HM2.out.drew.set (i+j) lo);have HS:=qh hs;clear hT hff hs HM2
       have HFF:Hid ((∀x∈vs.set (i+j) lo,x<18446744073709551616)∧(∀k,i+4≤k→(vs.set (i+j) lo).getD k 0=0)∧numL 18446744073709551616 (vs.set (i+j) lo)+hi'*18446744073709551616^(i+(j+1))=numL 18446744073709551616 (xa.take i)*numL 18446744073709551616 xb+xa.getD i 0*18446744073709551616^i*numL 18446744073709551616 (xb.take (j+1))):=by
        refine⟨zds HVS.out _ hlo,fun k hk=>(by rw[getD_set_ne _ _ _ _ om];exact HZ2.out k hk),?_⟩;have e1:=zel 18446744073709551616 vs (i+j) lo om;have e2:=zbp 18446744073709551616 xb j (by rw[HLB.out];omega);have e3:=HN2.out;rw[←HZZ.out]at e1;rw[←HY.out]at e2;rw[HX.out]at e3 HS;have e4:(18446744073709551616:Nat)^(i+(j+1))=18446744073709551616^(i+j)*18446744073709551616:=Nat.pow_succ ..;have e5:(18446744073709551616:Nat)^(i+j)=18446744073709551616^i*18446744073709551616^j:=Nat.pow_add ..;rw[e4];refine zve 18446744073709551616 _ _ (18446744073709551616^i) y z c lo hi' _ _ _ _ (18446744073709551616^(i+j)) e3 HS.out e1 ?_;rw[e2,Nat.mul_add,e5]
        grind
       go_wp2;go_roundg (4-(j+1))
       case measure=>omega
       case rel=>exact⟨j+1,hi',vs.set (i+j) lo,rfl,by go_num,rfl,by omega,by simp[hv8],HFF.out.1,hhi,HFF.out.2.1,HFF.out.2.2,HM3.out⟩
     · have hlt2:¬(j:Int)<4:=om
       have cv:(u64l vs)[i+4]? = some (.int .u64 ((vs.getD (i+4) 0:Nat):Int)):=zbo om;have cc:=(hM2.2.2.2.1.cell (i+4)).trans cv;have ff:=hM2.2.2.2.1.frozen (i+4);have HM3:=qh (hM2.set (i+4) c);have hj5:j=4:=om
       have HFF:Hid ((vs.set (i+4) c).length=8∧(∀x∈vs.set (i+4) c,x<18446744073709551616)∧(∀k,i+5≤k→(vs.set (i+4) c).getD k 0=0)∧numL 18446744073709551616 (vs.set (i+4) c)=numL 18446744073709551616 (xa.take (i+1))*numL 18446744073709551616 xb):=by
        subst hj5;refine⟨by simp[hv8],zds hvs _ hc,fun k hk=>(by rw[getD_set_ne _ _ _ _ om];exact hz2 k om),?_⟩;have e1:=zel 18446744073709551616 vs (i+4) c om;rw[hz2 (i+4) om]at e1;have e2:=zbp 18446744073709551616 xa i (by rw[HLA.out];omega);rw[tk (l:=xb) (by rw[HLB.out];omega)]at hn2;rw[e2]
        grind
       obtain⟨us,hus⟩:=ex9 (vs.set (i+4) c);obtain⟨u,hu⟩:=ex9 (vs.getD (i+4) 0);rw[←hus]at HM3 HFF;rw[←hu]at cc;clear cv hM2 hz2 hn2 hvs hj5 hus hu hv8 hlt hgk2;have cc':wr.cell? ⟨w.heap.size+1+1+1,i+4,none⟩=some (.int .u64 (u:Int)):=cc;have ff':wr.frozen? ⟨w.heap.size+1+1+1,i+4,none⟩=false:=ff;clear cc ff;go_wp2;go_roundg (4-(i+1))
       case measure=>omega
       case rel=>exact⟨i+1,us,rfl,by go_num,by omega,HFF.out.1,HFF.out.2.1,fun k hk=>HFF.out.2.2.1 k om,HFF.out.2.2.2,HM3.out⟩
  · have hlt:¬(i:Int)<4:=om
    obtain rfl:i=4:=om;obtain⟨N,hN⟩:=ex9 (wr.heap.size);have HQ:Hid (Blk (wr.alloc (.cells (u64l [0,0,0,0]).toArray 184)) N 184 (u64l [0,0,0,0])∧MW w xa xb (wr.alloc (.cells (u64l [0,0,0,0]).toArray 184)) ws):=⟨Blk.new' hN rfl,hM.1.alloc _,hM.2.1.alloc _,hM.2.2.1.alloc _,hM.2.2.2.1.alloc _,hM.2.2.2.2.alloc hM.2.2.2.2.size _⟩;have HNG:Hid (w.heap.size+3<N):=by have:=hM.2.2.2.1.lt;show _<_;omega
    have HNN:Hid (numL 18446744073709551616 ws=numL 18446744073709551616 xa*numL 18446744073709551616 xb):=by
     rw[tk (l:=xa) (by rw[HLA.out];omega)]at hn;exact hn
    have HWS:=qh hws;clear hM hz hn hws hgk;go_wp2;rw[←hN];clear hN
    go_loopg [10,44] 4 (fun kk q10 q44 wr2=>∃(i c:Nat) (os:List Nat),kk=4-i∧q44=.int .i64 (i:Int)∧q10=.int .u64 (c:Int)∧i≤4∧os.length=4∧(∀x∈os,x<18446744073709551616)∧c<18446744073709551616∧(∀k,i≤k→os.getD k 0=0) ∧
      numL 18446744073709551616 os+c*18446744073709551616^i=38*numL 18446744073709551616 ((ws.drop 4).take i)+numL 18446744073709551616 (ws.take i)∧Blk wr2 N 184 (u64l os)∧MW w xa xb wr2 ws)
    case atStart=>exact⟨0,0,[0,0,0,0],rfl,rfl,rfl,by omega,rfl,by simp,by omega,by intro k hk;rcases k with _|_|_|_|k <;> simp[List.getD_eq_getElem?_getD],by simp[numL],HQ.out.1,HQ.out.2⟩
    case round =>
     obtain⟨i,c,os,hgk,rfl,rfl,hi4,ho4,hos,hc,hz,hn,hbo,hM⟩:=hrel;clear HQ
     rcases Nat.lt_or_ge i 4 with hi|hi
     · have hlt2:(i:Int)<4:=om
       have hiw:IntKind.i64.wrap ((i:Int)+4)=((i+4:Nat):Int):=(IntWalk.i64_in _ om).trans om;have hca:(u64l ws)[i+4]? = some (.int .u64 ((ws.getD (i+4) 0:Nat):Int)):=zbo om;have hcb:(u64l ws)[i]? = some (.int .u64 ((ws.getD i 0:Nat):Int)):=zbo om;have hcv:(u64l os)[i]? = some (.int .u64 ((os.getD i 0:Nat):Int)):=zbo om;obtain⟨x,hx⟩:=ex9 (ws.getD (i+4) 0);obtain⟨y,hy⟩:=ex9 (ws.getD i 0);have HXL:Hid (x<18446744073709551616∧y<18446744073709551616):=⟨by rw[hx];exact za8 om HWS.out _,by rw[hy];exact za8 om HWS.out _⟩;rw[←hx]at hca;rw[←hy]at hcb
       have hT:wr.drew.cell? ⟨w.heap.size+3,i+4,none⟩=some (.int .u64 (x:Int))∧wr.drew.cell? ⟨w.heap.size+3,i,none⟩=some (.int .u64 (y:Int)) :=
        ⟨(hM.drew.2.2.2.1.cell (i+4)).trans hca,(hM.drew.2.2.2.1.cell i).trans hcb⟩
       have hcc:=(hbo.drew.cell i).trans hcv;have hff:=hbo.drew.frozen i;have HM2:=qh hM;have HBO:=qh hbo;have HX:=qh hx;have HY:=qh hy;have HN2:=qh hn;have HZ2:=qh hz;have HVS:=qh hos;clear hM hbo hca hcb hcv hx hy hn hz hos;go_wp2;refine kgo kr 14 (fun w'=>w'.cell? ⟨w.heap.size+3,i+4,none⟩=some (.int .u64 (x:Int))∧w'.cell? ⟨w.heap.size+3,i,none⟩=some (.int .u64 (y:Int))) hT (fun _ _ _ _ _ h=>h) ?_;refine kp 0 (.int .i64 (i:Int)) rfl kr (fun _=>kr) ?_;refine kp 1 (.int .i64 (i:Int)) rfl kr (fun _=>kr) ?_;refine kp 2 (.int .i64 ((i+4:Nat):Int)) rfl kr (fun _=>Eq.trans (b:=.ok (.value (.int .i64 (IntKind.i64.wrap ((i:Int)+4)))) _) kr (by rw[hiw])) ?_;refine kp 3 (.pointer (some ⟨(w.heap.size+3),i+4,none⟩)) rfl kr (fun _=>(zcz (t:=256) (e:=45) (x:=.tmp 5) (y:=.tmp 50) (g:=(w.heap.size+3)) (off:=0) (m:=8) (p:=i+4) rr kr kr om kr szU64).trans (by rw[Nat.zero_add])) ?_;refine kl 4 (.int .u64 (x:Int)) rfl kr (fun w' hw'=>zca (t:=45) (x:=.tmp 51) (p:=⟨(w.heap.size+3),i+4,none⟩) rr kr agU64 hw'.1) ?_;refine kp 5 (.int .i64 (i:Int)) rfl kr (fun _=>kr) ?_;refine kp 6 (.pointer (some ⟨(w.heap.size+3),i,none⟩)) rfl kr (fun _=>(zcz (t:=256) (e:=45) (x:=.tmp 5) (y:=.tmp 53) (g:=(w.heap.size+3)) (off:=0) (m:=8) (p:=i) rr kr kr om kr szU64).trans (by rw[Nat.zero_add])) ?_;refine kl 7 (.int .u64 (y:Int)) rfl kr (fun w' hw'=>zca (t:=45) (x:=.tmp 54) (p:=⟨(w.heap.size+3),i,none⟩) rr kr agU64 hw'.2) ?_;refine kp 8 (.int .u64 (c:Int)) rfl kr (fun _=>kr) ?_;intro q8 q9;clear q8 q9;refine AnyK.enter 9 (d:=some 57) (f:=169) (args:=#[.int .u64 (x:Int),.int .u64 38,.int .u64 (y:Int),.int .u64 (c:Int)]) rr kr kr ?_;refine(zmt x 38 y c HXL.out.1 om HXL.out.2 hc _).mono ?_;rintro e w2 ⟨lo,hi',rfl,hlo,hhi,hs,rfl⟩;refine⟨_,rfl,fun _=>hT,?_⟩;refine AnyK.pure 10 (v:=.tuple #[.int .u64 (lo:Int),.int .u64 (hi':Int)]) rfl kr (fun _ _ _ h=>h) rfl (fun _=>kr) (fun _=>hT) ?_;refine AnyK.pure 11 (v:=.int .u64 (lo:Int)) rfl kr (fun _ _ _ h=>h) rfl (fun _=>kr) (fun _=>hT) ?_;refine AnyK.pure 12 (v:=.int .u64 (hi':Int)) rfl kr (fun _ _ _ h=>h) rfl (fun _=>kr) (fun _=>hT) ?_;refine AnyK.pure 13 (v:=.pointer (some ⟨N,i,none⟩)) rfl kr (fun _ _ _ h=>h) rfl (fun _=>(zcz (t:=184) (e:=45) (x:=.tmp 9) (y:=.tmp 48) (g:=N) (off:=0) (m:=4) (p:=i) rr kr kr hi kr szU64).trans (by rw[Nat.zero_add])) (fun _=>hT) ?_;refine AnyK.store 14 (d:=none) (op:=.store 45 (.tmp 60) (.tmp 58)) kr (fun o ho=>zgf (p:=⟨N,i,none⟩) (k:=.u64) (n:=(lo:Int)) ho kr kr szU64 hcc hff) kr (fun h=>(by cases h)) ?_;refine AnyK.val 15 (v:=.int .u64 (hi':Int)) rfl kr rfl kr (fun h=>(by cases h)) ?_;refine AnyK.done kr ?_;have HM3:=qh (show MW w xa xb (wr.drew.setCell ⟨N,i,none⟩ (.int .u64 (lo:Int))) ws from ⟨HM2.out.drew.1.far (p:=⟨N,i,none⟩) (by have:=HNG.out;show _≠N;omega) _,HM2.out.drew.2.1.far (p:=⟨N,i,none⟩) (by have:=HNG.out;show _≠N;omega) _,HM2.out.drew.2.2.1.far (p:=⟨N,i,none⟩) (by have:=HNG.out;show _≠N;omega) _,HM2.out.drew.2.2.2.1.far (p:=⟨N,i,none⟩) (by have:=HNG.out;show _≠N;omega) _,HM2.out.drew.2.2.2.2.setCell (p:=⟨N,i,none⟩) (by have:=HNG.out;show _≤N;omega) _⟩);have HBO3:=qh (HBO.out.drew.set_ i (.int .u64 (lo:Int)));rw[zdi]at HBO3
       have HFF:Hid ((∀x∈os.set i lo,x<18446744073709551616)∧(∀k,i+1≤k→(os.set i lo).getD k 0=0)∧numL 18446744073709551616 (os.set i lo)+hi'*18446744073709551616^(i+1)=38*numL 18446744073709551616 ((ws.drop 4).take (i+1))+numL 18446744073709551616 (ws.take (i+1))):=by
        refine⟨zds HVS.out _ hlo,fun k hk=>(by rw[getD_set_ne _ _ _ _ om];exact HZ2.out k om),?_⟩;have e1:=zel 18446744073709551616 os i lo om;rw[HZ2.out i lr]at e1;have e2:=zbp 18446744073709551616 (ws.drop 4) i (by simp;omega);have e2':(ws.drop 4).getD i 0=x:=by rw[HX.out,gd9,List.getElem?_drop,gd9,Nat.add_comm]
        have e3:=zbp 18446744073709551616 ws i om;rw[←HY.out]at e3;rw[e2']at e2;have e4:(18446744073709551616:Nat)^(i+1)=18446744073709551616^i*18446744073709551616:=Nat.pow_succ ..;have e5:=HN2.out;rw[e4,e2,e3];clear e4 e2 e3 e2'
        grind
       clear hT hcc hff hs HM2 HBO;go_wp2;go_roundg (4-(i+1))
       case measure=>omega
       case rel=>exact⟨i+1,hi',os.set i lo,rfl,by go_num,rfl,by omega,by simp[ho4],HFF.out.1,hhi,HFF.out.2.1,HFF.out.2.2,HBO3.out,HM3.out⟩
     · have hlt2:¬(i:Int)<4:=om
       obtain rfl:i=4:=om
       obtain⟨o0,o1,o2,o3,rfl⟩:∃o0 o1 o2 o3,os=[o0,o1,o2,o3]:=by
        rcases os with _|⟨o0,_|⟨o1,_|⟨o2,_|⟨o3,_|⟨o4,os⟩⟩⟩⟩⟩ <;> simp at ho4
        exact⟨_,_,_,_,rfl⟩
       have x0:=hos o0 sy;have x1:=hos o1 sy;have x2:=hos o2 sy;have x3:=hos o3 sy;obtain⟨H,hH⟩:=ex9 (numL 18446744073709551616 (ws.drop 4));obtain⟨LL,hLL⟩:=ex9 (numL 18446744073709551616 (ws.take 4))
       have yH:H<115792089237316195423570985008687907853269984665640564039457584007913129639936:=by
        have:=zfn 18446744073709551616 (ws.drop 4) (fun x hx=>HWS.out x (List.mem_of_mem_drop hx));rw[←hH,show(ws.drop 4).length=4 by simp[hl8]]at this;exact this
       have yL:LL<115792089237316195423570985008687907853269984665640564039457584007913129639936:=by
        have:=zfn 18446744073709551616 (ws.take 4) (fun x hx=>HWS.out x (List.mem_of_mem_take hx));rw[←hLL,show(ws.take 4).length=4 by simp[hl8]]at this;exact this
       have yC:numL 18446744073709551616 xa*numL 18446744073709551616 xb=LL+115792089237316195423570985008687907853269984665640564039457584007913129639936*H:=by
        rw[←HNN.out,hH,hLL];exact ze9 18446744073709551616 ws 4 om
       have yO:v4 o0 o1 o2 o3+c*115792089237316195423570985008687907853269984665640564039457584007913129639936=38*H+LL:=by
        have h1:=hn;rw[tk (l:=ws.drop 4) (by simp[hl8]),←hH,←hLL]at h1;have h2:numL 18446744073709551616 [o0,o1,o2,o3]=v4 o0 o1 o2 o3:=by simp only[numL,v4];omega
        rw[h2]at h1;exact h1
       have c38:c≤38:=by simp only[v4]at yO;omega
       have HY:=qh (And.intro yC yO);have hb4:Blk wr N 184 (l4 o0 o1 o2 o3):=hbo;have HBO:=qh hb4;have HR:=qh hM.2.2.1;have HE:=qh hM.2.2.2.2;have hld:=el_ld hb4;obtain⟨n1,hn1⟩:=ex9 (38*c);have e1:(38:Int)*(c:Int)=(n1:Int):=om;have t0:(0:Int)≤(c:Int):=om;have t1:(c:Int)≤38:=om;have HP1:=qh (fun W=>zgb o0 o1 o2 o3 n1 x0 x1 x2 x3 om W);have HX1:Hid (n1=38*c∧c≤38∧o0<18446744073709551616∧o1<18446744073709551616∧o2<18446744073709551616∧o3<18446744073709551616):=⟨hn1,c38,x0,x1,x2,x3⟩;clear hb4 hbo hM hos hz hn hgk hH hLL yH yL yC yO c38 x0 x1 x2 x3 hn1 hc ho4 hi4 hi HWS HNN hl8
       go_upto_region 21 with (first
        | (go_at_call 166;(with_reducible refine(HP1.out _).mono ?_);rintro e w1 ⟨s0,s1,s2,s3,k,rfl,hv,hB1⟩;have HO1:=qbl HBO hB1;have HR1:=qbl HR hB1;have HE1:=qtr HE hB1;have HV1:=qh hv;clear hB1 hv)
        | (refine zab rfl 184 (.tmp 9) (.tmp 67) rfl N (l4 s0 s1 s2 s3) rr rr 184 _ HO1.out (by exact hdEl) (zec _ _ _ _) rfl ?_;intro w2 hb2 ho2;have HO2:=qh hb2;have HE2:=qh (ho2.below HE1.out (Nat.le_of_lt (Nat.lt_of_le_of_lt (Nat.le_add_right _ 3) HNG.out)) HE1.out.size);have HR2:=qh (ho2.blk HR1.out (Nat.ne_of_lt (Nat.lt_trans om HNG.out)));clear hb2 ho2))
       clear hld e1 t0 t1;have k1:=HV1.out.2.2.2.2.1;obtain⟨n2,hn2⟩:=ex9 (38*k);have e2:(38:Int)*(k:Int)=(n2:Int):=om;have u0':(0:Int)≤(k:Int):=om;have u1':(k:Int)≤1:=om;have HP2:=qh (fun W=>zgb s0 s1 s2 s3 n2 HV1.out.1 HV1.out.2.1 HV1.out.2.2.1 HV1.out.2.2.2.1 om W);have HX2:=qh hn2;have hld2:=el_ld HO2.out;clear k1 hn2
       go_upto_region 22 with (first
        | (go_at_call 166;(with_reducible refine(HP2.out _).mono ?_);rintro e w3 ⟨z0,z1,z2,z3,k2,rfl,hv,hB1⟩;have HO3:=qbl HO2 hB1;have HR3:=qbl HR2 hB1;have HE3:=qtr HE2 hB1;have HV2:=qh hv;clear hB1 hv)
        | (refine zab rfl 184 (.tmp 9) (.tmp 74) rfl N (l4 z0 z1 z2 z3) rr rr 184 _ HO3.out (by exact hdEl) (zec _ _ _ _) rfl ?_;intro w4 hb2 ho2;have HO4:=qh hb2;have HE4:=qh (ho2.below HE3.out (Nat.le_of_lt (Nat.lt_of_le_of_lt (Nat.le_add_right _ 3) HNG.out)) HE3.out.size);have HR4:=qh (ho2.blk HR3.out (Nat.ne_of_lt (Nat.lt_trans om HNG.out)));clear hb2 ho2))
       clear hld2 e2 u0' u1';have hld3:=el_ld HO4.out;have HP3:=qh (fun W=>zfa z0 z1 z2 z3 HV2.out.1 HV2.out.2.1 HV2.out.2.2.1 HV2.out.2.2.2.1 W)
       go_wp2_with (first
        | ((with_reducible refine(HP3.out _).mono ?_);rintro e w5 ⟨r0,r1,r2,r3,q,rfl,hv,hB1⟩;have HR5:=qbl HR4 hB1;have HE5:=qtr HE4 hB1;have HV3:=qh hv;clear hB1 hv)
        | (refine zab rfl 184 (.tmp 4) (.tmp 77) rfl (w.heap.size+2) (l4 r0 r1 r2 r3) rr rr 184 _ HR5.out (by exact hdEl) (zec _ _ _ _) rfl ?_;intro w6 hb2 ho2;have HR6:=qh hb2;have HE6:=qh (ho2.below HE5.out (Nat.le_add_right _ 2) HE5.out.size);clear hb2 ho2))
       refine bodyPost_ret (zam rfl _ _ _ _ rfl HR6.out _ Tryz.underlying184 rfl (by exact hdEl)) rfl ⟨?_,HE6.out⟩;have a1:=HX1.out;have a2:=HX2.out;have a3:=HV1.out;have a4:=HV2.out;have a5:=HV3.out;have a6:=HY.out;rw[l4_of _ _ _ _ a5.1 a5.2.1 a5.2.2.1 a5.2.2.2.1];have b1:v4 s0 s1 s2 s3+k*115792089237316195423570985008687907853269984665640564039457584007913129639936=v4 o0 o1 o2 o3+38*c:=by simp only[v4];have:=a3.2.2.2.2.2;omega
       have b2:v4 z0 z1 z2 z3+k2*115792089237316195423570985008687907853269984665640564039457584007913129639936=v4 s0 s1 s2 s3+38*k:=by simp only[v4];have:=a4.2.2.2.2.2;omega
       have b3:v4 s0 s1 s2 s3<115792089237316195423570985008687907853269984665640564039457584007913129639936:=by simp only[v4];omega
       have b4:v4 o0 o1 o2 o3<115792089237316195423570985008687907853269984665640564039457584007913129639936:=by simp only[v4];omega
       have b5:v4 z0 z1 z2 z3=v4 s0 s1 s2 s3+38*k:=om;rw[zw9 _ H LL (v4 o0 o1 o2 o3) c k (v4 s0 s1 s2 s3) (v4 z0 z1 z2 z3) (v4 r0 r1 r2 r3) q a6.1 a6.2 b1 b5 a5.2.2.2.2.2 a5.2.2.2.2.1]
end
def dig:Nat→Nat→List Nat
 | 0,_=>[]
 | k+1,n=>n%4294967296 :: dig k (n/4294967296)
theorem zch:∀k n,(dig k n).length=k
 | 0,_=>rfl
 | k+1,n=>by rw[dig,List.length_cons,zch]
theorem zhp:∀k n,∀x∈dig k n,x<4294967296
 | 0,_,x,h=>by cases h
 | k+1,n,x,h=>by
  rw[dig,List.mem_cons]at h
  rcases h with rfl|h
  · exact Nat.mod_lt _ om
  · exact zhp k _ x h
theorem zm9:∀k n,numL 4294967296 (dig k n)=n%4294967296^k
 | 0,n=>by rw[dig,numL,Nat.pow_zero,Nat.mod_one]
 | k+1,n=>by rw[dig,numL,zm9 k,Nat.pow_succ,Nat.mul_comm (4294967296^k),Nat.mod_mul]
theorem znw:∀l:List Nat,(∀x∈l,x<4294967296)→dig l.length (numL 4294967296 l)=l
 | [],_=>rfl
 | x :: xs,h=>by
  have hx:=h x List.mem_cons_self;rw[List.length_cons,dig,numL];have e1:(x+4294967296*numL 4294967296 xs)%4294967296=x:=om;have e2:(x+4294967296*numL 4294967296 xs)/4294967296=numL 4294967296 xs:=om;rw[e1,e2,znw xs fun y hy=>h y (List.mem_cons_of_mem _ hy)]
theorem zdf(B:Nat):∀(l:List Nat) (x:Nat),numL B (l++[x])=numL B l+x*B^l.length
 | [],x=>by simp[numL]
 | y :: l,x=>by
  have ih:=zdf B l x;simp only[List.cons_append,numL,ih,List.length_cons,Nat.pow_succ]
  grind
theorem zfk{l:List Nat}{B x:Nat}(h:∀y∈l,y<B)(hx:x<B):∀y∈l++[x],y<B:=by
 intro y hy
 rcases List.mem_append.1 hy with hy|hy
 · exact h y hy
 · simp only[List.mem_cons,List.not_mem_nil,or_false]at hy
   rw[hy];exact hx
theorem zeu(ds:List Nat)(i n v:Nat)(hi:ds.length=i)(h:i<n):(ds++List.replicate (n-i) 0).set i v=(ds++[v])++List.replicate (n-(i+1)) 0:=by
 rw[List.set_append_right _ _ om,hi,Nat.sub_self,show n-i=n-(i+1)+1 by omega,List.replicate_succ,List.set_cons_zero,as9]
 rfl
def u32d(l:List Nat):List Value:=l.map fun(n:Nat)=>.int .u32 (n:Int)
theorem zey(l:List Nat):(u32d l).length=l.length:=by simp[u32d]
theorem zb7{l:List Nat}{i:Nat}(hi:i<l.length):(u32d l)[i]? = some (.int .u32 ((l.getD i 0:Nat):Int)):=by
 simp[u32d,List.getD_eq_getElem?_getD,hi]
theorem zf7(l:List Nat)(i n:Nat):(u32d l).set i (.int .u32 (n:Int))=u32d (l.set i n):=by simp[u32d,List.map_set]
theorem zmo(l:List Nat):∀v∈u32d l,v.oneCell'=true:=by
 intro v hv;obtain⟨n,_,rfl⟩:=List.mem_map.1 hv
 rfl
theorem zs0(l:List Nat):∀v∈u64l l,v.oneCell'=true:=by
 intro v hv;obtain⟨n,_,rfl⟩:=List.mem_map.1 hv
 rfl
theorem zf6(l:List Nat):(u64l l).length=l.length:=by simp[u64l]
theorem zeb(v:Value):Instr.loadAt 196 v=ldAt 196 v:=rfl
theorem zjq(v:Value):Instr.loadAt 229 v=ldAt 229 v:=rfl
theorem hdN8:∀k,k=8→(Tryz.prog.info? 196).map (·.size)=some k:=by
 rintro k rfl
 kernel_rfl
theorem hdW17:∀k,k=17→(Tryz.prog.info? 229).map (·.size)=some k:=by
 rintro k rfl
 kernel_rfl
theorem n8_ld{w:World}{g:Nat}{t:TypeId}{l:List Nat}(h:Blk w g t (u32d l))(hl:l.length=8):(ldAt 196 (.pointer (some ⟨g,0,none⟩))).run Tryz.prog w=.ok (.agg (u32d l).toArray) w :=
 zal h 196 0 (u32d l) (by rw[List.drop_zero];exact tk lr) _ Tryz.underlying196 rfl (hdN8 _ (by rw[zey,hl]))
theorem zmm{w:World}{g:Nat}{t:TypeId}{l:List Nat}(h:Blk w g t (u64l l))(hl:l.length=17):(ldAt 229 (.pointer (some ⟨g,0,none⟩))).run Tryz.prog w=.ok (.agg (u64l l).toArray) w :=
 zal h 229 0 (u64l l) (by rw[List.drop_zero];exact tk lr) _ Tryz.underlying229 rfl (hdW17 _ (by rw[zf6,hl]))
def o8:List Value:=u32d (List.replicate 8 0)
def o17:List Value:=u64l (List.replicate 17 0)
end Go.Proofs.YtpgpaenloaphaaaGreat
