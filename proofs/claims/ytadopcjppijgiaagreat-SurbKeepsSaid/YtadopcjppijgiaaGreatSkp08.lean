/- Part of the proof. -/
import Derived.IntWalk
import Derived.Test.YtadopcjppijgiaaGreatSkp04
set_option linter.all false
set_option maxRecDepth 100000
set_option maxHeartbeats 0
namespace Go.Proofs.YtadopcjppijgiaaGreat
open Go.RowKit
section
theorem zct(x:UInt32)(k:Nat)(h1:1≤k)(h2:k≤31):bits .or .u32 (n32 x/2^k) (n32 x*2^(32-k)%(4294967296:Int))=n32 (Sh.rotr x (UInt32.ofNat k)):=by
 have hx:=x.toNat_lt
 unfold n32
 have e1:(x.toNat:Int)*2^(32-k)%4294967296=((x.toNat*2^(32-k)%4294967296:Nat):Int):=by simp
 have e2:(x.toNat:Int)/2^k=((x.toNat/2^k:Nat):Int):=by simp
 have r:x.toNat/2^k<4294967296:=Nat.lt_of_le_of_lt (Nat.div_le_self _ _) hx;rw[e1,e2,u32_or_nat _ _ r (Nat.mod_lt _ om)];have m1:(UInt32.ofNat k).toNat=k:=by rw[UInt32.toNat_ofNat'];omega
 have m2:(32-UInt32.ofNat k).toNat=32-k:=by
  rw[UInt32.toNat_sub,m1]
  simp
  omega
 unfold Sh.rotr
 rw[UInt32.toNat_or,UInt32.toNat_shiftRight,UInt32.toNat_shiftLeft,m1,m2,Nat.mod_eq_of_lt (show k<32 by omega),Nat.mod_eq_of_lt (show 32-k<32 by omega),Nat.shiftLeft_eq,Nat.shiftRight_eq_div_pow]
theorem zue(x:UInt32)(w:World):Calls Tryz.prog 162 #[.int .u32 (n32 x),.int .i64 2] w fun e w'=>e=.returned (.int .u32 (n32 (Sh.rotr x 2)))∧∃q,w'=w.drewN q:=by
 have HR:Hid (bits .or .u32 (n32 x/4) (n32 x*1073741824%(4294967296:Int))=n32 (Sh.rotr x 2)):=zct x 2 om om
 go_enter Tryz.func162, Tryz.ntmps162
 go_wp2_with fail
 go_quiet (fail)
 go_wp2_with fail
 go_ret;exact⟨by rw[←HR.o];rfl,_,rfl⟩
theorem zud(x:UInt32)(w:World):Calls Tryz.prog 162 #[.int .u32 (n32 x),.int .i64 6] w fun e w'=>e=.returned (.int .u32 (n32 (Sh.rotr x 6)))∧∃q,w'=w.drewN q:=by
 have HR:Hid (bits .or .u32 (n32 x/64) (n32 x*67108864%(4294967296:Int))=n32 (Sh.rotr x 6)):=zct x 6 om om
 go_enter Tryz.func162, Tryz.ntmps162
 go_wp2_with fail
 go_quiet (fail)
 go_wp2_with fail
 go_ret;exact⟨by rw[←HR.o];rfl,_,rfl⟩
theorem zuc(x:UInt32)(w:World):Calls Tryz.prog 162 #[.int .u32 (n32 x),.int .i64 7] w fun e w'=>e=.returned (.int .u32 (n32 (Sh.rotr x 7)))∧∃q,w'=w.drewN q:=by
 have HR:Hid (bits .or .u32 (n32 x/128) (n32 x*33554432%(4294967296:Int))=n32 (Sh.rotr x 7)):=zct x 7 om om
 go_enter Tryz.func162, Tryz.ntmps162
 go_wp2_with fail
 go_quiet (fail)
 go_wp2_with fail
 go_ret;exact⟨by rw[←HR.o];rfl,_,rfl⟩
theorem zrb(x:UInt32)(w:World):Calls Tryz.prog 162 #[.int .u32 (n32 x),.int .i64 11] w fun e w'=>e=.returned (.int .u32 (n32 (Sh.rotr x 11)))∧∃q,w'=w.drewN q:=by
 have HR:Hid (bits .or .u32 (n32 x/2048) (n32 x*2097152%(4294967296:Int))=n32 (Sh.rotr x 11)):=zct x 11 om om
 go_enter Tryz.func162, Tryz.ntmps162
 go_wp2_with fail
 go_quiet (fail)
 go_wp2_with fail
 go_ret;exact⟨by rw[←HR.o];rfl,_,rfl⟩
theorem zra(x:UInt32)(w:World):Calls Tryz.prog 162 #[.int .u32 (n32 x),.int .i64 13] w fun e w'=>e=.returned (.int .u32 (n32 (Sh.rotr x 13)))∧∃q,w'=w.drewN q:=by
 have HR:Hid (bits .or .u32 (n32 x/8192) (n32 x*524288%(4294967296:Int))=n32 (Sh.rotr x 13)):=zct x 13 om om
 go_enter Tryz.func162, Tryz.ntmps162
 go_wp2_with fail
 go_quiet (fail)
 go_wp2_with fail
 go_ret;exact⟨by rw[←HR.o];rfl,_,rfl⟩
theorem zq9(x:UInt32)(w:World):Calls Tryz.prog 162 #[.int .u32 (n32 x),.int .i64 17] w fun e w'=>e=.returned (.int .u32 (n32 (Sh.rotr x 17)))∧∃q,w'=w.drewN q:=by
 have HR:Hid (bits .or .u32 (n32 x/131072) (n32 x*32768%(4294967296:Int))=n32 (Sh.rotr x 17)):=zct x 17 om om
 go_enter Tryz.func162, Tryz.ntmps162
 go_wp2_with fail
 go_quiet (fail)
 go_wp2_with fail
 go_ret;exact⟨by rw[←HR.o];rfl,_,rfl⟩
theorem zq8(x:UInt32)(w:World):Calls Tryz.prog 162 #[.int .u32 (n32 x),.int .i64 18] w fun e w'=>e=.returned (.int .u32 (n32 (Sh.rotr x 18)))∧∃q,w'=w.drewN q:=by
 have HR:Hid (bits .or .u32 (n32 x/262144) (n32 x*16384%(4294967296:Int))=n32 (Sh.rotr x 18)):=zct x 18 om om
 go_enter Tryz.func162, Tryz.ntmps162
 go_wp2_with fail
 go_quiet (fail)
 go_wp2_with fail
 go_ret;exact⟨by rw[←HR.o];rfl,_,rfl⟩
theorem zq7(x:UInt32)(w:World):Calls Tryz.prog 162 #[.int .u32 (n32 x),.int .i64 19] w fun e w'=>e=.returned (.int .u32 (n32 (Sh.rotr x 19)))∧∃q,w'=w.drewN q:=by
 have HR:Hid (bits .or .u32 (n32 x/524288) (n32 x*8192%(4294967296:Int))=n32 (Sh.rotr x 19)):=zct x 19 om om
 go_enter Tryz.func162, Tryz.ntmps162
 go_wp2_with fail
 go_quiet (fail)
 go_wp2_with fail
 go_ret;exact⟨by rw[←HR.o];rfl,_,rfl⟩
theorem zq6(x:UInt32)(w:World):Calls Tryz.prog 162 #[.int .u32 (n32 x),.int .i64 22] w fun e w'=>e=.returned (.int .u32 (n32 (Sh.rotr x 22)))∧∃q,w'=w.drewN q:=by
 have HR:Hid (bits .or .u32 (n32 x/4194304) (n32 x*1024%(4294967296:Int))=n32 (Sh.rotr x 22)):=zct x 22 om om
 go_enter Tryz.func162, Tryz.ntmps162
 go_wp2_with fail
 go_quiet (fail)
 go_wp2_with fail
 go_ret;exact⟨by rw[←HR.o];rfl,_,rfl⟩
theorem zq5(x:UInt32)(w:World):Calls Tryz.prog 162 #[.int .u32 (n32 x),.int .i64 25] w fun e w'=>e=.returned (.int .u32 (n32 (Sh.rotr x 25)))∧∃q,w'=w.drewN q:=by
 have HR:Hid (bits .or .u32 (n32 x/33554432) (n32 x*128%(4294967296:Int))=n32 (Sh.rotr x 25)):=zct x 25 om om
 go_enter Tryz.func162, Tryz.ntmps162
 go_wp2_with fail
 go_quiet (fail)
 go_wp2_with fail
 go_ret;exact⟨by rw[←HR.o];rfl,_,rfl⟩
theorem zpe(w:World):Calls Tryz.prog 151 #[] w fun e w'=>e=.returned (.agg (u32s Sh.start.list).toArray)∧Below w.heap.size w w':=by
 go_enter Tryz.func151, Tryz.ntmps151
 go_wp2_with fail
 exact bodyPost_ret (zan rfl _ w.heap.size 165 (u32s Sh.start.list) rfl (Blk.new' rfl rfl) _ Tryz.underlying165 rfl hd144) rfl ⟨rfl,(Below.refl _ _).alloc lr _⟩
attribute [local go_sem ↓] zhu zg1
theorem zo7(w:World):Calls Tryz.prog 161 #[] w fun e w'=>e=.returned (.agg (u32s Sh.ks).toArray)∧Below w.heap.size w w':=by
 have HI:Hid ((Tryz.prog.info? 249).map (·.size)=some (u32s Sh.ks).length):=hd199;have HL:Hid ((u32s Sh.ks).length=64):=rfl;have r:Hid (∀v∈u32s Sh.ks,v.oneCell'=true):=zbc _;have HE:Hid ((u32s Sh.ks).toArray=#[.int .u32 1116352408,.int .u32 1899447441,.int .u32 3049323471,.int .u32 3921009573,.int .u32 961987163,.int .u32 1508970993,.int .u32 2453635748,.int .u32 2870763221,.int .u32 3624381080,.int .u32 310598401,.int .u32 607225278,.int .u32 1426881987,.int .u32 1925078388,.int .u32 2162078206,.int .u32 2614888103,.int .u32 3248222580,.int .u32 3835390401,.int .u32 4022224774,.int .u32 264347078,.int .u32 604807628,.int .u32 770255983,.int .u32 1249150122,.int .u32 1555081692,.int .u32 1996064986,.int .u32 2554220882,.int .u32 2821834349,.int .u32 2952996808,.int .u32 3210313671,.int .u32 3336571891,.int .u32 3584528711,.int .u32 113926993,.int .u32 338241895,.int .u32 666307205,.int .u32 773529912,.int .u32 1294757372,.int .u32 1396182291,.int .u32 1695183700,.int .u32 1986661051,.int .u32 2177026350,.int .u32 2456956037,.int .u32 2730485921,.int .u32 2820302411,.int .u32 3259730800,.int .u32 3345764771,.int .u32 3516065817,.int .u32 3600352804,.int .u32 4094571909,.int .u32 275423344,.int .u32 430227734,.int .u32 506948616,.int .u32 659060556,.int .u32 883997877,.int .u32 958139571,.int .u32 1322822218,.int .u32 1537002063,.int .u32 1747873779,.int .u32 1955562222,.int .u32 2024104815,.int .u32 2227730452,.int .u32 2361852424,.int .u32 2428436474,.int .u32 2756734187,.int .u32 3204031479,.int .u32 3329325298]):=rfl;obtain⟨U,hU⟩:=ex9 (u32s Sh.ks);rw[←hU]at HI r HL HE;have D:=qh hU;clear hU;have hz:Blk (w.alloc (.cells #[.int .u32 0,.int .u32 0,.int .u32 0,.int .u32 0,.int .u32 0,.int .u32 0,.int .u32 0,.int .u32 0,.int .u32 0,.int .u32 0,.int .u32 0,.int .u32 0,.int .u32 0,.int .u32 0,.int .u32 0,.int .u32 0,.int .u32 0,.int .u32 0,.int .u32 0,.int .u32 0,.int .u32 0,.int .u32 0,.int .u32 0,.int .u32 0,.int .u32 0,.int .u32 0,.int .u32 0,.int .u32 0,.int .u32 0,.int .u32 0,.int .u32 0,.int .u32 0,.int .u32 0,.int .u32 0,.int .u32 0,.int .u32 0,.int .u32 0,.int .u32 0,.int .u32 0,.int .u32 0,.int .u32 0,.int .u32 0,.int .u32 0,.int .u32 0,.int .u32 0,.int .u32 0,.int .u32 0,.int .u32 0,.int .u32 0,.int .u32 0,.int .u32 0,.int .u32 0,.int .u32 0,.int .u32 0,.int .u32 0,.int .u32 0,.int .u32 0,.int .u32 0,.int .u32 0,.int .u32 0,.int .u32 0,.int .u32 0,.int .u32 0,.int .u32 0] 249)) w.heap.size 249 (row32 [] 64):=Blk.new w _ _;have hB:Below w.heap.size w (w.alloc (.cells #[.int .u32 0,.int .u32 0,.int .u32 0,.int .u32 0,.int .u32 0,.int .u32 0,.int .u32 0,.int .u32 0,.int .u32 0,.int .u32 0,.int .u32 0,.int .u32 0,.int .u32 0,.int .u32 0,.int .u32 0,.int .u32 0,.int .u32 0,.int .u32 0,.int .u32 0,.int .u32 0,.int .u32 0,.int .u32 0,.int .u32 0,.int .u32 0,.int .u32 0,.int .u32 0,.int .u32 0,.int .u32 0,.int .u32 0,.int .u32 0,.int .u32 0,.int .u32 0,.int .u32 0,.int .u32 0,.int .u32 0,.int .u32 0,.int .u32 0,.int .u32 0,.int .u32 0,.int .u32 0,.int .u32 0,.int .u32 0,.int .u32 0,.int .u32 0,.int .u32 0,.int .u32 0,.int .u32 0,.int .u32 0,.int .u32 0,.int .u32 0,.int .u32 0,.int .u32 0,.int .u32 0,.int .u32 0,.int .u32 0,.int .u32 0,.int .u32 0,.int .u32 0,.int .u32 0,.int .u32 0,.int .u32 0,.int .u32 0,.int .u32 0,.int .u32 0] 249)):=(Below.refl _ _).alloc lr _;have hst:=zcr (P:=Tryz.prog) hz 249 0 U (by rw[HL.o];exact lr) r.o HI.o;have A:=qh (za2 w.heap.size _ U 0 _ _ hz (by rw[HL.o];exact lr));rw[zap _ _ (by rw[HL.o];rfl)]at A;have E:=qh (zbq w.heap.size w.heap.size w U 0 _ hB lr);rw[HE.o]at hst;clear hz hB
 go_enter Tryz.func161, Tryz.ntmps161
 go_wp2_with fail
 exact bodyPost_ret (zan rfl _ w.heap.size 249 U rfl A.o _ Tryz.underlying249 rfl HI.o) rfl ⟨by rw[D.o],E.o⟩
end
section
attribute [local go_sem ↓] zhu zg1
theorem zpp(x:UInt32):bits .xor .u32 (if IntKind.u32.signed=true then -1 else IntKind.u32.max) (n32 x)=n32 (~~~ x):=zhp x
attribute [local go_sem] zpp zed zj4 zoa zee zem zhp zn9 zlk
def bp(l:List UInt8)(t:Nat):Nat→UInt32
 | 0=>0
 | i+1=>bp l t i*256+(l.getD (4*t+i) 0).toUInt32
theorem bp4(l:List UInt8)(t:Nat):bp l t 4=Sh.be32 (l.getD (4*t) 0) (l.getD (4*t+1) 0) (l.getD (4*t+2) 0) (l.getD (4*t+3) 0):=by
 apply UInt32.toNat_inj.1
 simp only[bp,Sh.be32,UInt32.toNat_add,UInt32.toNat_mul,UInt8.toNat_toUInt32,UInt32.toNat_ofNat',Nat.add_zero];have h0:=(l.getD (4*t) 0).toNat_lt;have h1:=(l.getD (4*t+1) 0).toNat_lt;have h2:=(l.getD (4*t+2) 0).toNat_lt;have h3:=(l.getD (4*t+3) 0).toNat_lt
 simp
theorem zzi(b:UInt32)(x:UInt8):n32 b*256%(4294967296:Int)+(x.toNat:Int)=n32 (b*256+x.toUInt32):=by
 unfold n32
 have:=x.toNat_lt;have:=b.toNat_lt;rw[UInt32.toNat_add,UInt32.toNat_mul,UInt8.toNat_toUInt32]
 simp
 omega
def shiftI(R:Sh.St)(i:Nat):List UInt32:=R.list.take (i+1)++(R.list.drop i).take (7-i)
theorem zil(R:Sh.St)(i:Nat)(h1:1≤i)(h2:i≤7)(x:UInt32)(hx:R.list[i-1]? = some x):(shiftI R i).set i x=shiftI R (i-1):=by
 obtain⟨a,b,c,d,e,f,g,h⟩:=R;obtain rfl|rfl|rfl|rfl|rfl|rfl|rfl:i=1∨i=2∨i=3∨i=4∨i=5∨i=6∨i=7:=om
 all_goals (simp[Sh.St.list]at hx;subst hx;rfl)
theorem zin(R:Sh.St)(i:Nat)(h1:1≤i)(h2:i≤7):(shiftI R i)[i-1]? = R.list[i-1]?:=by
 obtain⟨a,b,c,d,e,f,g,h⟩:=R;obtain rfl|rfl|rfl|rfl|rfl|rfl|rfl:i=1∨i=2∨i=3∨i=4∨i=5∨i=6∨i=7:=om
 all_goals rfl
theorem zim(R:Sh.St)(i:Nat)(h2:i≤7):(shiftI R i).length=8:=by simp[shiftI,Sh.St.list];omega
theorem zpc(l:List UInt32)(N t:Nat)(h:l.length=t)(hN:t<N):(row32 l N).set t (.int .u32 0)=row32 l N:=by
 subst h
 unfold row32
 rw[List.set_append_right _ _ (by rw[za4];exact lr),za4,Nat.sub_self];obtain⟨k,hk⟩:∃k,N-l.length=k+1:=⟨N-l.length-1,by omega⟩;rw[hk]
 simp[rep,List.replicate_succ]
theorem zf3(l:List UInt32)(N t:Nat)(h:l.length=t)(hN:t<N)(x:UInt32):(row32 l N).set t (.int .u32 (n32 x))=row32 (l++[x]) N:=by
 subst h;exact zdz l N x hN
theorem rq_2(x:UInt32)(w:World)(n:Nat):Calls Tryz.prog 162 #[.int .u32 (n32 x),.int .i64 2] (w.drewN n) fun e w''=>e=.returned (.int .u32 (n32 (Sh.rotr x 2)))∧∃m,w''=w.drewN m:=Calls.quiet_of (zue x (w.drewN n))
theorem rq_6(x:UInt32)(w:World)(n:Nat):Calls Tryz.prog 162 #[.int .u32 (n32 x),.int .i64 6] (w.drewN n) fun e w''=>e=.returned (.int .u32 (n32 (Sh.rotr x 6)))∧∃m,w''=w.drewN m:=Calls.quiet_of (zud x (w.drewN n))
theorem rq_11(x:UInt32)(w:World)(n:Nat):Calls Tryz.prog 162 #[.int .u32 (n32 x),.int .i64 11] (w.drewN n) fun e w''=>e=.returned (.int .u32 (n32 (Sh.rotr x 11)))∧∃m,w''=w.drewN m:=Calls.quiet_of (zrb x (w.drewN n))
theorem rq_13(x:UInt32)(w:World)(n:Nat):Calls Tryz.prog 162 #[.int .u32 (n32 x),.int .i64 13] (w.drewN n) fun e w''=>e=.returned (.int .u32 (n32 (Sh.rotr x 13)))∧∃m,w''=w.drewN m:=Calls.quiet_of (zra x (w.drewN n))
theorem rq_22(x:UInt32)(w:World)(n:Nat):Calls Tryz.prog 162 #[.int .u32 (n32 x),.int .i64 22] (w.drewN n) fun e w''=>e=.returned (.int .u32 (n32 (Sh.rotr x 22)))∧∃m,w''=w.drewN m:=Calls.quiet_of (zq6 x (w.drewN n))
theorem rq_25(x:UInt32)(w:World)(n:Nat):Calls Tryz.prog 162 #[.int .u32 (n32 x),.int .i64 25] (w.drewN n) fun e w''=>e=.returned (.int .u32 (n32 (Sh.rotr x 25)))∧∃m,w''=w.drewN m:=Calls.quiet_of (zq5 x (w.drewN n))
theorem zc9(s:List UInt32)(i:Nat)(x:UInt32):(u32s s).set i (.int .u32 (n32 x))=u32s (s.set i x):=by unfold u32s;rw[List.map_set];rfl
theorem zoi(i:Nat)(h:0<i):Value.int .i64 ((i:Int)-1)=.int .i64 ((i-1:Nat):Int):=by rw[show(i:Int)-1=((i-1:Nat):Int) by omega]
def addI(s R:Sh.St)(i:Nat):List UInt32:=List.zipWith (· + ·) (s.list.take i) (R.list.take i)++s.list.drop i
theorem zwe(s R:Sh.St)(i:Nat)(h:i<8):(addI s R i)[i]? = s.list[i]?:=by
 obtain rfl|rfl|rfl|rfl|rfl|rfl|rfl|rfl:i=0∨i=1∨i=2∨i=3∨i=4∨i=5∨i=6∨i=7:=om
 all_goals rfl
theorem zwd(s R:Sh.St)(i:Nat)(x y:UInt32)(hx:s.list[i]? = some x)(hy:R.list[i]? = some y):(addI s R i).set i (x+y)=addI s R (i+1):=by
 have h:i<8:=(gi9.1 hx).1;obtain⟨a,b,c,d,e,f,g,h'⟩:=s;obtain⟨a',b',c',d',e',f',g',r⟩:=R;obtain rfl|rfl|rfl|rfl|rfl|rfl|rfl|rfl:i=0∨i=1∨i=2∨i=3∨i=4∨i=5∨i=6∨i=7:=om
 all_goals (simp[Sh.St.list]at hx hy;subst hx;subst hy;rfl)
structure RIn(w:World)(s:Sh.St)(g:Nat)(wr:World):Prop where
 st:Blk wr w.heap.size 165 (st8 s)
 o:Blk wr (w.heap.size+1) 165 (u32s [0,0,0,0,0,0,0,0])
 ks:Blk wr g 249 (u32s Sh.ks)
 big:w.heap.size+2<g
 bel:Below w.heap.size w wr
theorem RIn.far{w:World}{s:Sh.St}{g:Nat}{wr:World}(h:RIn w s g wr){p:Addr}(h1:w.heap.size+2≤p.block)(h2:p.block≠g)(u:Value):RIn w s g (wr.setCell p u) :=
 ⟨h.st.far om u,h.o.far om u,h.ks.far om u,h.big,h.bel.setCell om u⟩
theorem RIn.drewN{w:World}{s:Sh.St}{g:Nat}{wr:World}(h:RIn w s g wr)(n:Nat):RIn w s g (wr.drewN n):=⟨h.st.drewN n,h.o.drewN n,h.ks.drewN n,h.big,Below.drewN' h.bel n⟩
theorem RIn.drew{w:World}{s:Sh.St}{g:Nat}{wr:World}(h:RIn w s g wr):RIn w s g wr.drew:=⟨h.st.drew,h.o.drew,h.ks.drew,h.big,h.bel.drew⟩
theorem zjv(s:Sh.St)(A:Option Addr)(c:Nat)(l:List UInt8)(w:World)(h:Rd w A 64 (u8s l)):
 Calls Tryz.prog 152 #[.agg (st8 s).toArray,.slice A 64 c] w fun e w'=>e=.returned (.agg (st8 (Sh.comp s l)).toArray)∧Below w.heap.size w w':=by
 have k3:=qh zo7;have l5:Hid ((u32s Sh.ks).length=64):=rfl;have j5:Hid (∀v∈u32s Sh.ks,v.oneCell'=true):=zbc _;have l9:Hid ((Tryz.prog.info? 249).map (·.size)=some (u32s Sh.ks).length):=hd199;obtain⟨V,hV⟩:=ex9 (u32s Sh.ks);rw[←hV]at k3 l5 j5 l9;have m4:=qh hV;have p5:=qh h.len;have HR:=qh h;clear hV h
 unfold st8
 go_enter Tryz.func152, Tryz.ntmps152
 go_wp2_with (first
  | (go_at_call 161;(with_reducible refine(k3.o _).mono ?_);rintro e w1 ⟨rfl,b3⟩)
  | (refine zab rfl 249 (.tmp 6) (.tmp 18) rfl w1.heap.size V rr rr 249 (row32 [] 64) (by exact Blk.new' rfl rfl) l9.o j5.o (by rw[l5.o];rfl) ?_;intro w2 k6 b2;have n1:w.heap.size+2<w1.heap.size:=by { have h5:=b3.size;simp at h5;omega }
     have E:=qh (b2.blk (((((Blk.new' (w:=w) (cs:=st8 s) (t:=165) rfl rfl).alloc _).alloc _).below b3 (by simp <;> omega)).alloc _) om);have e3:=qh (b2.blk (((((Blk.new' sy rfl:Blk _ (w.heap.size+1) 165 (u32s [0,0,0,0,0,0,0,0])).alloc _)).below b3 (by simp <;> omega)).alloc _) om);have c6:=qh (b2.blk ((((Blk.new' sy rfl:Blk _ (w.heap.size+2) 249 (row32 [] 64))).below b3 (by simp <;> omega)).alloc _) om);have j8:Below w.heap.size w w1:=((((Below.refl _ w).alloc lr _).alloc sy _).alloc (by simp <;> omega) _).trans (b3.mono (by simp <;> omega));have e6:=qh (b2.below (j8.alloc om _) om (by simp <;> omega));have k0:w2.heap.size=w1.heap.size+1:=by { rw[b2.size];simp }
     have i5:=qh k0;have d0:=E.o.cell 0;have d1:=E.o.cell 1;have d2:=E.o.cell 2;have d3:=E.o.cell 3;have d4:=E.o.cell 4;have d5:=E.o.cell 5;have d6:=E.o.cell 6;have d7:=E.o.cell 7;simp only[st8,List.getElem?_cons_zero,List.getElem?_cons_succ]at d0 d1 d2 d3 d4 d5 d6 d7
     clear k0 b2 j8))
 have k8:Hid (RIn w s w1.heap.size (w2.alloc (.cells (st8 s).toArray 165))):=⟨E.o.alloc _,e3.o.alloc _,by rw[←m4.o];exact k6.alloc _,n1,e6.o.alloc (by have:=i5.o;omega) _⟩;have j3:Hid (Blk (w2.alloc (.cells (st8 s).toArray 165)) (w.heap.size+2) 249 (row32 (Sh.words l 0) 64)):=c6.o.alloc _;have l2:Hid (Blk (w2.alloc (.cells (st8 s).toArray 165)) w2.heap.size 165 (st8 s)):=Blk.new' rfl rfl;have p4:w1.heap.size<w2.heap.size:=by have:=i5.o;omega
 clear d0 d1 d2 d3 d4 d5 d6 d7 E e3 c6 e6 k6 b3 i5;generalize w1.heap.size=g at *;generalize w2.heap.size=gv at *
 go_loopg [8] 64 (fun k q wr=>∃(t:Nat) (R:Sh.St),t≤64∧k=64-t∧q=.int .i64 t∧Hid (Sh.rounds l s t=R)∧RIn w s g wr∧Blk wr (w.heap.size+2) 249 (row32 (Sh.words l t) 64)∧Blk wr gv 165 (st8 R))
 case atStart=>exact⟨0,s,by omega,rfl,rfl,rfl,k8.o,j3.o,l2.o⟩
 case round =>
  clear k8 j3 l2;obtain⟨t,R,ht,G,rfl,j0,hI,hw,hv⟩:=hrel;have b1:=qh G;clear G
  by_cases hlt:t<64
  · have m0:(t:Int)<64:=om
    have HI:=qh hI;have HW:=qh hw;have a3:=qh hv;have g5:Hid ((Sh.words l t).length=t):=Sh.words_len l t;have o4:=hw.lt;have k5:(row32 (Sh.words l t) 64).length=64:=zfc _ _ (by rw[g5.o];omega);have h1:=qh k5;obtain⟨wo,n3⟩:∃wo:World,wo=wr:=⟨_,rfl⟩;subst n3;clear hI hw hv k5
    by_cases h16:t<16
    · have j9:(t:Int)<16:=om
      go_wp2_with fail
      go_loopg [9] 4 (fun k q wr=>∃i:Nat,i≤4∧k=4-i∧q=.int .i64 i∧RIn w s g wr∧Blk wr (w.heap.size+2) 249 ((row32 (Sh.words l t) 64).set t (.int .u32 (n32 (bp l t i))))∧Blk wr gv 165 (st8 R))
      case atStart=>exact⟨0,by omega,rfl,rfl,HI.o,by rw[show Value.int .u32 (n32 (bp l t 0))=.int .u32 0 from rfl,zpc _ _ _ g5.o om];exact HW.o,a3.o⟩
      case round =>
       clear HI HW a3;obtain⟨i,hi,G,rfl,hI,hw,hv⟩:=hrel;have h3:=qh G;clear G
       by_cases hi4:i<4
       · have l8:(i:Int)<4:=om
         obtain⟨m,hm⟩:=ex9 (4*t+i);have p1:4*(t:Int)+(i:Int)=(m:Int):=om;have o6:(0:Int)≤(m:Int):=om;have o2:(m:Int)<64:=om;obtain⟨b,o7,x,rfl,p0,HX,cx⟩:=(HR.o.below hI.bel).u8 (k:=m) om
         have j1:Hid (bp l t (i+1)=bp l t i*256+x.toUInt32):=by
          show bp l t i*256+(l.getD (4*t+i) 0).toUInt32=_
          rw[←hm,gd9,HX.o]
          rfl
         obtain⟨B,hB⟩:=ex9 (bp l t i);rw[←hB]at hw j1
         have cw:wr.cell? ⟨w.heap.size+1+1,t,none⟩=some (.int .u32 (n32 B)):=by
          show wr.cell? ⟨w.heap.size+2,t,none⟩=_
          rw[hw.cell,List.getElem?_set_self (by rw[h1.o];exact hlt)]
         have fw:wr.frozen? ⟨w.heap.size+1+1,t,none⟩=false:=hw.frozen t;have m8:=qh (zzi B x);have p3:=x.toNat_lt;have o9:=zfj B;have o5:=hw.lt;have k7:=qh ((hI.far (p:=⟨w.heap.size+1+1,t,none⟩) lr (by have:=hI.big;show w.heap.size+1+1≠g;omega) (.int .u32 (n32 (B*256+x.toUInt32)))).drew)
         have c6:Hid (Blk (wr.setCell ⟨w.heap.size+1+1,t,none⟩ (.int .u32 (n32 (B*256+x.toUInt32)))).drew (w.heap.size+2) 249 ((row32 (Sh.words l t) 64).set t (.int .u32 (n32 (bp l t (i+1)))))):=by
          have h5:=(hw.set_ t (.int .u32 (n32 (B*256+x.toUInt32)))).drew;rw[List.set_set,←j1.o]at h5;rw[←j1.o];exact h5
         have f3:=qh ((hv.far (p:=⟨w.heap.size+1+1,t,none⟩) (by have:=hI.big;show gv≠w.heap.size+1+1;omega) (.int .u32 (n32 (B*256+x.toUInt32)))).drew);have h4:=hI.big;clear hI hw hv hB hm
         go_wp2_with fail
         go_region
         rw[m8.o];obtain⟨w5,J⟩:=ex9 ((wr.setCell ⟨w.heap.size+1+1,t,none⟩ (.int .u32 (n32 (B*256+x.toUInt32)))).drew);rw[←J]at k7 c6 f3 ⊢;clear J cw fw cx
         go_wp2_with fail
         go_roundg (4-(i+1))
         case measure=>have:=h3.o;omega
         case rel=>exact⟨i+1,by omega,rfl,by go_num,k7.o,c6.o,f3.o⟩
       · obtain rfl:i=4:=om
         have l8:¬((4:Nat):Int)<4:=om;have k4:Sh.words l (t+1)=Sh.words l t++[bp l t 4]:=by rw[Sh.words,if_pos h16,bp4]
         have a0:=qh hw;rw[zf3 _ _ _ g5.o om,←k4]at a0;have a1:=qh hI;have D:=qh hv;obtain⟨w5,J⟩:∃w5:World,w5=wr:=⟨_,rfl⟩;subst J;clear h3 k4 hI hw hv;obtain⟨x,hx⟩:=zcp l (t+1) t om;obtain⟨k,hk⟩:∃k,Sh.ks[t]? = some k:=⟨_,ge9 (by exact hlt)⟩;have f2:Hid ((Sh.words l 64)[t]? = some x):=(zgv l t 64 hlt).trans hx;have HS:=qh (zey j0.o hlt hk f2.o);have f7:=qh hx;have f6:=qh hk;obtain⟨a,b',c',d,e',f,g',h'⟩:=R;have i7:(0:Int)≤(t:Int):=om;clear hx hk;have h9:w5.cell? ⟨w.heap.size+1+1,t,none⟩=some (.int .u32 (n32 x)):=(a0.o.cell t).trans (zbz _ 64 _ _ f7.o);have i3:w5.cell? ⟨g,t,none⟩=some (.int .u32 (n32 k)):=by rw[a1.o.ks.cell];exact zbx f6.o
         have g0:=D.o.cell 0;have c1:=D.o.cell 1;have g1:=D.o.cell 2;have e1:=D.o.cell 3;have e2:=D.o.cell 4;have f1:=D.o.cell 5;have b9:=D.o.cell 6;have e8:=D.o.cell 7;simp only[st8,List.getElem?_cons_zero,List.getElem?_cons_succ]at g0 c1 g1 e1 e2 f1 b9 e8
         repeat (first|go_values|go_skip|go_guarded|go_step|go_upon|go_back)
         go_quiet ((go_at_call 162;(first|(with_reducible exact rq_6 _ _ _)| (with_reducible exact rq_11 _ _ _)| (with_reducible exact rq_25 _ _ _)| fail)))
         have X:=qh (a1.o.drewN nq);have Y:Hid (Blk (w5.drewN nq) (w.heap.size+2) 249 (row32 (Sh.words l (t+1)) 64)):=a0.o.drewN nq;have r:=qh (D.o.drewN nq);clear h9 i3 g0 c1 g1 e1 e2 f1 b9 e8;obtain⟨w6,b6⟩:=ex9 (w5.drewN nq);rw[←b6]at X Y r ⊢;clear b6 a1 a0 D nq;have i2:w6.cell? ⟨w.heap.size+1+1,t,none⟩=some (.int .u32 (n32 x)):=(Y.o.cell t).trans (zbz _ 64 _ _ f7.o);have h6:w6.cell? ⟨g,t,none⟩=some (.int .u32 (n32 k)):=by rw[X.o.ks.cell];exact zbx f6.o
         have f5:=r.o.cell 0;have d8:=r.o.cell 1;have f8:=r.o.cell 2;have g3:=r.o.cell 3;have c3:=r.o.cell 4;have f9:=r.o.cell 5;have c5:=r.o.cell 6;have g4:=r.o.cell 7;simp only[st8,List.getElem?_cons_zero,List.getElem?_cons_succ]at f5 d8 f8 g3 c3 f9 c5 g4
         repeat (first|go_values|go_skip|go_guarded|go_step|go_upon|go_back)
         go_quiet ((go_at_call 162;(first|(with_reducible exact rq_2 _ _ _)| (with_reducible exact rq_13 _ _ _)| (with_reducible exact rq_22 _ _ _)| fail)))
         have M:=qh (X.o.drewN nq);have a2:Hid (Blk (w6.drewN nq) (w.heap.size+2) 249 (row32 (Sh.words l (t+1)) 64)):=Y.o.drewN nq;have a6:=qh (r.o.drewN nq);clear i2 h6 f5 d8 f8 g3 c3 f9 c5 g4;obtain⟨w7,g2⟩:=ex9 (w6.drewN nq);rw[←g2]at M a2 a6 ⊢;clear g2 X Y r nq
         repeat (first|go_values|go_skip|go_guarded|go_step|go_upon|go_back)
         obtain⟨t1,a8⟩:=ex9 (h'+(Sh.rotr e' 6 ^^^ Sh.rotr e' 11 ^^^ Sh.rotr e' 25)+(e' &&& f ^^^ ~~~ e' &&& g')+k+x);obtain⟨t2,a9⟩:=ex9 ((Sh.rotr a 2 ^^^ Sh.rotr a 13 ^^^ Sh.rotr a 22)+(a &&& b' ^^^ a &&& c' ^^^ b' &&& c'));rw[←a8,←a9];have i6:=qh a8;have i0:=qh a9;have e9:Hid (w.heap.size+2<g):=M.o.big;clear a8 a9
         go_loopg [16] 7 (fun kk q wr=>∃i:Nat,i≤7∧kk=i∧q=.int .i64 i∧RIn w s g wr∧Blk wr (w.heap.size+2) 249 (row32 (Sh.words l (t+1)) 64)∧Blk wr gv 165 (u32s (shiftI ⟨a,b',c',d,e',f,g',h'⟩ i)))
         case atStart=>exact⟨7,by omega,rfl,rfl,M.o,a2.o,a6.o⟩
         case round =>
          clear M a2 a6;obtain⟨i,hi,G,rfl,hI,hw,hv⟩:=hrel;have c8:=qh G;have l0:=e9.o;clear G
          by_cases b4:0<i
          · have b5:(0:Int)<(i:Int):=om
            have o0:(0:Int)≤(i:Int)-1:=om;have n4:(i:Int)-1<8:=om;have n5:(1:Int)≤(i:Int):=om;have n9:(i:Int)<8:=om;have j4:(0:Int)≤(i:Int):=om;obtain⟨y,hy⟩:∃y,(Sh.St.mk a b' c' d e' f g' h').list[i-1]? = some y:=⟨_,ge9 (by simp[Sh.St.list];omega)⟩;have i9:=qh (zil _ i om hi y hy);have cy:wr.cell? ⟨gv,i-1,none⟩=some (.int .u32 (n32 y)):=by rw[hv.cell];exact zbx ((zin _ i om hi).trans hy)
            obtain⟨z,hz⟩:∃z,(u32s (shiftI ⟨a,b',c',d,e',f,g',h'⟩ i))[i]? = some z:=⟨_,ge9 (by rw[za4,zim _ _ hi];omega)⟩;have cz:=(hv.cell i).trans hz;have fz:=hv.frozen i;have i1:=hv.lt;have a5:=qh (hI.far (p:=⟨gv,i,none⟩) (by show w.heap.size+2≤gv;omega) (by show gv≠g;omega) (.int .u32 (n32 y)));have a4:=qh (hw.far (p:=⟨gv,i,none⟩) (by show w.heap.size+2≠gv;omega) (.int .u32 (n32 y)));have I:=qh (hv.set_ i (.int .u32 (n32 y)));rw[zc9,i9.o]at I;clear hI hw hv hy hz
            repeat (first|go_values|go_skip|go_guarded|go_step|go_upon|go_back)
            go_roundg (i-1)
            case measure=>rw[c8.o];exact Nat.sub_lt b4 (by decide)
            case rel=>exact⟨i-1,by omega,rfl,zoi i b4,a5.o,a4.o,I.o⟩
          · obtain rfl:i=0:=om
            have b5:¬(0:Int)<((0:Nat):Int):=om;have c0:wr.cell? ⟨gv,0,none⟩=some (.int .u32 (n32 a)):=(hv.cell 0).trans rfl;have c4:wr.cell? ⟨gv,4,none⟩=some (.int .u32 (n32 d)):=(hv.cell 4).trans rfl;have f0:=hv.frozen 0;have f4:=hv.frozen 4;have i1:=hv.lt;have a5:=qh ((hI.far (p:=⟨gv,4,none⟩) (by show w.heap.size+2≤gv;omega) (by show gv≠g;omega) (.int .u32 (n32 (d+t1)))).far (p:=⟨gv,0,none⟩) (by show w.heap.size+2≤gv;omega) (by show gv≠g;omega) (.int .u32 (n32 (t1+t2))));have a4:=qh ((hw.far (p:=⟨gv,4,none⟩) (by show w.heap.size+2≠gv;omega) (.int .u32 (n32 (d+t1)))).far (p:=⟨gv,0,none⟩) (by show w.heap.size+2≠gv;omega) (.int .u32 (n32 (t1+t2))));have I:=qh ((hv.set_ 4 (.int .u32 (n32 (d+t1)))).set_ 0 (.int .u32 (n32 (t1+t2))));have i8:Hid (u32s (((shiftI ⟨a,b',c',d,e',f,g',h'⟩ 0).set 4 (d+t1)).set 0 (t1+t2))=st8 (Sh.rnd ⟨a,b',c',d,e',f,g',h'⟩ k x)):=by show _=_;rw[i6.o,i0.o];rfl
            rw[zc9,zc9,i8.o]at I;clear hI hw hv
            repeat (first|go_values|go_skip|go_guarded|go_step|go_upon|go_back)
            go_roundg (64-(t+1))
            case measure=>have:=b1.o;omega
            case rel=>exact⟨t+1,_,by omega,rfl,by go_num,HS.o,a5.o,a4.o,I.o⟩
    · have j9:¬(t:Int)<16:=om
      obtain⟨x2,h2⟩:=zcp l t (t-2) om;obtain⟨x7,h7⟩:=zcp l t (t-7) om;obtain⟨h0,h8⟩:=zcp l t (t-15) om;obtain⟨g8,d9⟩:=zcp l t (t-16) om;have c2:wo.cell? ⟨w.heap.size+1+1,t-2,none⟩=some (.int .u32 (n32 x2)):=(HW.o.cell (t-2)).trans (zbz _ 64 _ _ h2);have n6:wo.cell? ⟨w.heap.size+1+1,t-15,none⟩=some (.int .u32 (n32 h0)):=(HW.o.cell (t-15)).trans (zbz _ 64 _ _ h8);have c7:wo.cell? ⟨w.heap.size+1+1,t-7,none⟩=some (.int .u32 (n32 x7)):=(HW.o.cell (t-7)).trans (zbz _ 64 _ _ h7);have k2:wo.cell? ⟨w.heap.size+1+1,t-16,none⟩=some (.int .u32 (n32 g8)):=(HW.o.cell (t-16)).trans (zbz _ 64 _ _ d9);have l6:=qh (zie om h2 h7 h8 d9);have j2:(2:Int)≤(t:Int):=om;have m9:(15:Int)≤(t:Int):=om;clear h2 h7 h8 d9
      repeat (first|go_values|go_skip|go_guarded|go_step|go_upon|go_back)
      go_quiet (fail)
      have g6:=qh (HI.o.drewN nq);have e0:Hid (Blk (wo.drewN nq) (w.heap.size+2) 249 (row32 (Sh.words l t) 64)):=HW.o.drewN nq;have i4:=qh (a3.o.drewN nq);have e7:(wo.drewN nq).cell? ⟨w.heap.size+1+1,t-7,none⟩=some (.int .u32 (n32 x7)):=c7;have g7:(wo.drewN nq).cell? ⟨w.heap.size+1+1,t-16,none⟩=some (.int .u32 (n32 g8)):=k2;clear c2 n6 c7 k2;obtain⟨w4,j6⟩:=ex9 (wo.drewN nq);rw[←j6]at g6 e0 i4 e7 g7 ⊢;clear j6 nq HI HW a3;obtain⟨z,hz⟩:∃z,(row32 (Sh.words l t) 64)[t]? = some z:=⟨_,ge9 (by rw[h1.o];exact hlt)⟩;have ez:w4.cell? ⟨w.heap.size+1+1,t,none⟩=some z:=(e0.o.cell t).trans hz;have fz:w4.frozen? ⟨w.heap.size+1+1,t,none⟩=false:=e0.o.frozen t;have i7:(0:Int)≤(t:Int):=om;have j7:(7:Int)≤(t:Int):=om;have m7:(16:Int)≤(t:Int):=om;clear hz
      repeat (first|go_values|go_skip|go_guarded|go_step|go_upon|go_back)
      have a7:(0:Int)≤(t:Int)-7:=om;have b7:(t:Int)-7<64:=om;have m3:(0:Int)≤(t:Int)-16:=om;have k9:(t:Int)-16<64:=om;have n7:((t:Int)-7).toNat=t-7:=om;have m5:((t:Int)-16).toNat=t-16:=om;have p7:IntKind.i64.wrap ((t:Int)-7)=(t:Int)-7:=IntWalk.i64_in _ om;have n0:IntKind.i64.wrap ((t:Int)-16)=(t:Int)-16:=IntWalk.i64_in _ om
      go_region_held3 (fun W'=>W'.cell? ⟨w.heap.size+1+1,t-7,none⟩=some (.int .u32 (n32 x7))∧W'.cell? ⟨w.heap.size+1+1,t-16,none⟩=some (.int .u32 (n32 g8)))
        (first|exact⟨e7,g7⟩|(refine⟨?_,?_⟩ <;> (rw[World.cell?_setCell_other _ _ _ _ (by intro e;injection e with _ e;omega)];first|exact e7|exact g7)))
        (first|(go_at_call 162;(with_reducible refine(zq9 _ _).mono ?_);rintro e w' ⟨rfl,e5,rfl⟩)| (go_at_call 162;(with_reducible refine(zq7 _ _).mono ?_);rintro e w' ⟨rfl,c9,rfl⟩)| (go_at_call 162;(with_reducible refine(zuc _ _).mono ?_);rintro e w' ⟨rfl,q7,rfl⟩)| (go_at_call 162;(with_reducible refine(zq8 _ _).mono ?_);rintro e w' ⟨rfl,e4,rfl⟩))
      obtain⟨v,hv⟩:=ex9 ((Sh.rotr x2 17 ^^^ Sh.rotr x2 19 ^^^ x2 >>> 10)+x7+(Sh.rotr h0 7 ^^^ Sh.rotr h0 18 ^^^ h0 >>> 3)+g8);rw[←hv];have h4:=g6.o.big;have a1:=qh ((g6.o.drewN (1+e5+c9+q7+e4)).far (p:=⟨w.heap.size+1+1,t,none⟩) lr (by show w.heap.size+1+1≠g;omega) (.int .u32 (n32 v)))
      have a0:Hid (Blk ((w4.drewN (1+e5+c9+q7+e4)).setCell ⟨w.heap.size+1+1,t,none⟩ (.int .u32 (n32 v))) (w.heap.size+2) 249 (row32 (Sh.words l (t+1)) 64)):=by
       have h5:=(e0.o.drewN (1+e5+c9+q7+e4)).set_ t (.int .u32 (n32 v));rw[zf3 _ _ _ g5.o om,hv]at h5;rw[l6.o,hv];exact h5
      have D:=qh ((i4.o.drewN (1+e5+c9+q7+e4)).far (p:=⟨w.heap.size+1+1,t,none⟩) (by show gv≠w.heap.size+1+1;omega) (.int .u32 (n32 v)));clear e7 g7 ez fz a7 b7 m3 k9 n7 m5 p7 n0 hv g6 e0 i4 h4 j2 m9 j7 m7 i7;obtain⟨w5,J⟩:=ex9 ((w4.drewN (1+e5+c9+q7+e4)).setCell ⟨w.heap.size+1+1,t,none⟩ (.int .u32 (n32 v)));rw[←J]at a1 a0 D ⊢;clear J l6;obtain⟨x,hx⟩:=zcp l (t+1) t om;obtain⟨k,hk⟩:∃k,Sh.ks[t]? = some k:=⟨_,ge9 (by exact hlt)⟩;have f2:Hid ((Sh.words l 64)[t]? = some x):=(zgv l t 64 hlt).trans hx;have HS:=qh (zey j0.o hlt hk f2.o);have f7:=qh hx;have f6:=qh hk;obtain⟨a,b',c',d,e',f,g',h'⟩:=R;have i7:(0:Int)≤(t:Int):=om;clear hx hk;have h9:w5.cell? ⟨w.heap.size+1+1,t,none⟩=some (.int .u32 (n32 x)):=(a0.o.cell t).trans (zbz _ 64 _ _ f7.o);have i3:w5.cell? ⟨g,t,none⟩=some (.int .u32 (n32 k)):=by rw[a1.o.ks.cell];exact zbx f6.o
      have g0:=D.o.cell 0;have c1:=D.o.cell 1;have g1:=D.o.cell 2;have e1:=D.o.cell 3;have e2:=D.o.cell 4;have f1:=D.o.cell 5;have b9:=D.o.cell 6;have e8:=D.o.cell 7;simp only[st8,List.getElem?_cons_zero,List.getElem?_cons_succ]at g0 c1 g1 e1 e2 f1 b9 e8
      repeat (first|go_values|go_skip|go_guarded|go_step|go_upon|go_back)
      go_quiet ((go_at_call 162;(first|(with_reducible exact rq_6 _ _ _)| (with_reducible exact rq_11 _ _ _)| (with_reducible exact rq_25 _ _ _)| fail)))
      have X:=qh (a1.o.drewN nq);have Y:Hid (Blk (w5.drewN nq) (w.heap.size+2) 249 (row32 (Sh.words l (t+1)) 64)):=a0.o.drewN nq;have r:=qh (D.o.drewN nq);clear h9 i3 g0 c1 g1 e1 e2 f1 b9 e8;obtain⟨w6,b6⟩:=ex9 (w5.drewN nq);rw[←b6]at X Y r ⊢;clear b6 a1 a0 D nq;have i2:w6.cell? ⟨w.heap.size+1+1,t,none⟩=some (.int .u32 (n32 x)):=(Y.o.cell t).trans (zbz _ 64 _ _ f7.o);have h6:w6.cell? ⟨g,t,none⟩=some (.int .u32 (n32 k)):=by rw[X.o.ks.cell];exact zbx f6.o
      have f5:=r.o.cell 0;have d8:=r.o.cell 1;have f8:=r.o.cell 2;have g3:=r.o.cell 3;have c3:=r.o.cell 4;have f9:=r.o.cell 5;have c5:=r.o.cell 6;have g4:=r.o.cell 7;simp only[st8,List.getElem?_cons_zero,List.getElem?_cons_succ]at f5 d8 f8 g3 c3 f9 c5 g4
      repeat (first|go_values|go_skip|go_guarded|go_step|go_upon|go_back)
      go_quiet ((go_at_call 162;(first|(with_reducible exact rq_2 _ _ _)| (with_reducible exact rq_13 _ _ _)| (with_reducible exact rq_22 _ _ _)| fail)))
      have M:=qh (X.o.drewN nq);have a2:Hid (Blk (w6.drewN nq) (w.heap.size+2) 249 (row32 (Sh.words l (t+1)) 64)):=Y.o.drewN nq;have a6:=qh (r.o.drewN nq);clear i2 h6 f5 d8 f8 g3 c3 f9 c5 g4;obtain⟨w7,g2⟩:=ex9 (w6.drewN nq);rw[←g2]at M a2 a6 ⊢;clear g2 X Y r nq
      repeat (first|go_values|go_skip|go_guarded|go_step|go_upon|go_back)
      obtain⟨t1,a8⟩:=ex9 (h'+(Sh.rotr e' 6 ^^^ Sh.rotr e' 11 ^^^ Sh.rotr e' 25)+(e' &&& f ^^^ ~~~ e' &&& g')+k+x);obtain⟨t2,a9⟩:=ex9 ((Sh.rotr a 2 ^^^ Sh.rotr a 13 ^^^ Sh.rotr a 22)+(a &&& b' ^^^ a &&& c' ^^^ b' &&& c'));rw[←a8,←a9];have i6:=qh a8;have i0:=qh a9;have e9:Hid (w.heap.size+2<g):=M.o.big;clear a8 a9
      go_loopg [16] 7 (fun kk q wr=>∃i:Nat,i≤7∧kk=i∧q=.int .i64 i∧RIn w s g wr∧Blk wr (w.heap.size+2) 249 (row32 (Sh.words l (t+1)) 64)∧Blk wr gv 165 (u32s (shiftI ⟨a,b',c',d,e',f,g',h'⟩ i)))
      case atStart=>exact⟨7,by omega,rfl,rfl,M.o,a2.o,a6.o⟩
      case round =>
       clear M a2 a6;obtain⟨i,hi,G,rfl,hI,hw,hv⟩:=hrel;have c8:=qh G;have l0:=e9.o;clear G
       by_cases b4:0<i
       · have b5:(0:Int)<(i:Int):=om
         have o0:(0:Int)≤(i:Int)-1:=om;have n4:(i:Int)-1<8:=om;have n5:(1:Int)≤(i:Int):=om;have n9:(i:Int)<8:=om;have j4:(0:Int)≤(i:Int):=om;obtain⟨y,hy⟩:∃y,(Sh.St.mk a b' c' d e' f g' h').list[i-1]? = some y:=⟨_,ge9 (by simp[Sh.St.list];omega)⟩;have i9:=qh (zil _ i om hi y hy);have cy:wr.cell? ⟨gv,i-1,none⟩=some (.int .u32 (n32 y)):=by rw[hv.cell];exact zbx ((zin _ i om hi).trans hy)
         obtain⟨z,hz⟩:∃z,(u32s (shiftI ⟨a,b',c',d,e',f,g',h'⟩ i))[i]? = some z:=⟨_,ge9 (by rw[za4,zim _ _ hi];omega)⟩;have cz:=(hv.cell i).trans hz;have fz:=hv.frozen i;have i1:=hv.lt;have a5:=qh (hI.far (p:=⟨gv,i,none⟩) (by show w.heap.size+2≤gv;omega) (by show gv≠g;omega) (.int .u32 (n32 y)));have a4:=qh (hw.far (p:=⟨gv,i,none⟩) (by show w.heap.size+2≠gv;omega) (.int .u32 (n32 y)));have I:=qh (hv.set_ i (.int .u32 (n32 y)));rw[zc9,i9.o]at I;clear hI hw hv hy hz
         repeat (first|go_values|go_skip|go_guarded|go_step|go_upon|go_back)
         go_roundg (i-1)
         case measure=>rw[c8.o];exact Nat.sub_lt b4 (by decide)
         case rel=>exact⟨i-1,by omega,rfl,zoi i b4,a5.o,a4.o,I.o⟩
       · obtain rfl:i=0:=om
         have b5:¬(0:Int)<((0:Nat):Int):=om;have c0:wr.cell? ⟨gv,0,none⟩=some (.int .u32 (n32 a)):=(hv.cell 0).trans rfl;have c4:wr.cell? ⟨gv,4,none⟩=some (.int .u32 (n32 d)):=(hv.cell 4).trans rfl;have f0:=hv.frozen 0;have f4:=hv.frozen 4;have i1:=hv.lt;have a5:=qh ((hI.far (p:=⟨gv,4,none⟩) (by show w.heap.size+2≤gv;omega) (by show gv≠g;omega) (.int .u32 (n32 (d+t1)))).far (p:=⟨gv,0,none⟩) (by show w.heap.size+2≤gv;omega) (by show gv≠g;omega) (.int .u32 (n32 (t1+t2))));have a4:=qh ((hw.far (p:=⟨gv,4,none⟩) (by show w.heap.size+2≠gv;omega) (.int .u32 (n32 (d+t1)))).far (p:=⟨gv,0,none⟩) (by show w.heap.size+2≠gv;omega) (.int .u32 (n32 (t1+t2))));have I:=qh ((hv.set_ 4 (.int .u32 (n32 (d+t1)))).set_ 0 (.int .u32 (n32 (t1+t2))));have i8:Hid (u32s (((shiftI ⟨a,b',c',d,e',f,g',h'⟩ 0).set 4 (d+t1)).set 0 (t1+t2))=st8 (Sh.rnd ⟨a,b',c',d,e',f,g',h'⟩ k x)):=by show _=_;rw[i6.o,i0.o];rfl
         rw[zc9,zc9,i8.o]at I;clear hI hw hv
         repeat (first|go_values|go_skip|go_guarded|go_step|go_upon|go_back)
         go_roundg (64-(t+1))
         case measure=>have:=b1.o;omega
         case rel=>exact⟨t+1,_,by omega,rfl,by go_num,HS.o,a5.o,a4.o,I.o⟩
  · obtain rfl:t=64:=om
    have m0:¬((64:Nat):Int)<64:=om;have n2:Hid (Sh.comp s l=⟨s.a+R.a,s.b+R.b,s.c+R.c,s.d+R.d,s.e+R.e,s.f+R.f,s.g+R.g,s.h+R.h⟩):=by show _=_;rw[←j0.o];rfl
    have HI:=qh hI;have a3:=qh hv;have e9:Hid (w.heap.size+2<g):=hI.big;clear hI hw hv b1 hlt ht
    repeat (first|go_values|go_skip|go_guarded|go_step|go_upon|go_back)
    go_loopg [17] 8 (fun kk q wr=>∃i:Nat,i≤8∧kk=8-i∧q=.int .i64 i∧Blk wr w.heap.size 165 (u32s (addI s R i))∧Blk wr (w.heap.size+1) 165 (u32s [0,0,0,0,0,0,0,0])∧Blk wr gv 165 (st8 R)∧Below w.heap.size w wr)
    case atStart=>exact⟨0,by omega,rfl,rfl,HI.o.st,HI.o.o,a3.o,HI.o.bel⟩
    case round =>
     clear HI a3;obtain⟨i,hi,G,rfl,hs,ho,hv,hB⟩:=hrel;have b1:=qh G;have l0:=e9.o;clear G
     by_cases hlt:i<8
     · have l3:(i:Int)<8:=om
       have b4:(0:Int)≤(i:Int):=om;obtain⟨x,hx⟩:∃x,s.list[i]? = some x:=⟨_,ge9 (by simp[Sh.St.list];omega)⟩;obtain⟨y,hy⟩:∃y,R.list[i]? = some y:=⟨_,ge9 (by simp[Sh.St.list];omega)⟩;have cx:=(hs.cell i).trans (zbx ((zwe s R i hlt).trans hx));have cy:wr.cell? ⟨gv,i,none⟩=some (.int .u32 (n32 y)):=(hv.cell i).trans (by rw[zdl];exact zbx hy);have fx:=hs.frozen i;have o1:=qh (zwd s R i x y hx hy);have E:=qh ((hs.set_ i (.int .u32 (n32 (x+y)))).drew);rw[zc9,o1.o]at E;have e3:=qh ((ho.far (p:=⟨w.heap.size,i,none⟩) (by show w.heap.size+1≠w.heap.size;omega) (.int .u32 (n32 (x+y)))).drew);have f3:=qh ((hv.far (p:=⟨w.heap.size,i,none⟩) (by show gv≠w.heap.size;omega) (.int .u32 (n32 (x+y)))).drew);have e6:=qh ((hB.setCell (p:=⟨w.heap.size,i,none⟩) lr (.int .u32 (n32 (x+y)))).drew);have o3:=hs.lt;clear hs ho hv hB hx hy
       repeat (first|go_values|go_skip|go_guarded|go_step|go_upon|go_back)
       go_region
       obtain⟨w5,J⟩:=ex9 ((wr.setCell ⟨w.heap.size,i,none⟩ (.int .u32 (n32 (x+y)))).drew);rw[←J]at E e3 f3 e6 ⊢;clear J cx cy fx
       repeat (first|go_values|go_skip|go_guarded|go_step|go_upon|go_back)
       go_roundg (8-(i+1))
       case measure=>have:=b1.o;omega
       case rel=>exact⟨i+1,by omega,rfl,by go_num,E.o,e3.o,f3.o,e6.o⟩
     · obtain rfl:i=8:=om
       have l3:¬((8:Nat):Int)<8:=om;have l7:u32s (addI s R 8)=st8 (Sh.comp s l):=by rw[n2.o];rfl
       rw[l7]at hs;have g9:Hid ((Tryz.prog.info? 165).map (·.size)=some (st8 (Sh.comp s l)).length):=hd144;have k1:Hid (∀v∈st8 (Sh.comp s l),v.oneCell'=true):=by rw[zdl];exact zbc _
       have m1:Hid ((st8 (Sh.comp s l)).length=8):=rfl;have l1:Hid (st8 (Sh.comp s l)=[.int .u32 (n32 (Sh.comp s l).a),.int .u32 (n32 (Sh.comp s l).b),.int .u32 (n32 (Sh.comp s l).c),.int .u32 (n32 (Sh.comp s l).d),.int .u32 (n32 (Sh.comp s l).e),.int .u32 (n32 (Sh.comp s l).f),.int .u32 (n32 (Sh.comp s l).g),.int .u32 (n32 (Sh.comp s l).h)]):=rfl;obtain⟨U,hU⟩:=ex9 (st8 (Sh.comp s l));rw[←hU]at hs g9 k1 m1 l1;clear l7 hU b1 hlt hi
       go_wp2_with (first
        | refine wpList_load_mid rfl 165 (.tmp 2) rfl w.heap.size 0 rr U _ hs.range Tryz.underlying165 rfl g9.o ?_
        | (refine zab rfl 165 (.tmp 4) (.tmp 180) rfl (w.heap.size+1) U rr rr 165 _ ho g9.o k1.o (by rw[m1.o];rfl) ?_;intro w8 m6 m2))
       exact bodyPost_ret (zan rfl _ (w.heap.size+1) _ U rfl m6 _ Tryz.underlying165 rfl g9.o) rfl ⟨by rw[l1.o],m2.below hB (Nat.le_succ _) hB.size⟩
end
