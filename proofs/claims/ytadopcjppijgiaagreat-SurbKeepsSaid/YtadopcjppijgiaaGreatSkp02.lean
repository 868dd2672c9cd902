/- Part of the proof. -/
import Derived.WalkKit
import Derived.Laws.BitsAllLaws
import Derived.Laws.CopyOwn
set_option linter.all false
set_option maxRecDepth 100000
set_option maxHeartbeats 0
namespace Go.Proofs.YtadopcjppijgiaaGreat
open Go.RowKit
theorem zty(n:Nat):IntKind.u32.wrap (n:Int)=((n%4294967296:Nat):Int):=by rw[IntKind.wrap_u32];omega
theorem zqh(x y:UInt32):IntKind.u32.wrap ((x.toNat:Int)+(y.toNat:Int))=((x+y).toNat:Int):=by
 rw[show(x.toNat:Int)+(y.toNat:Int)=((x.toNat+y.toNat:Nat):Int) by omega,zty,UInt32.toNat_add]
theorem zw2(x y:UInt32):bits .xor .u32 (x.toNat:Int) (y.toNat:Int)=((x ^^^ y).toNat:Int):=by
 rw[u32_xor_nat _ _ x.toNat_lt y.toNat_lt,UInt32.toNat_xor]
theorem zw4(x y:UInt32):bits .and .u32 (x.toNat:Int) (y.toNat:Int)=((x &&& y).toNat:Int):=by
 rw[u32_and_nat _ _ x.toNat_lt y.toNat_lt,UInt32.toNat_and]
theorem w32_or(x y:UInt32):bits .or .u32 (x.toNat:Int) (y.toNat:Int)=((x ||| y).toNat:Int):=by
 rw[u32_or_nat _ _ x.toNat_lt y.toNat_lt,UInt32.toNat_or]
theorem zt0(x y:UInt32):((x.toNat:Int)+(y.toNat:Int))%(4294967296:Int)=((x+y).toNat:Int):=by
 rw[←IntKind.wrap_u32];exact zqh x y
theorem zgx(x:UInt32)(n:Nat)(h:n<32):(x.toNat:Int)/2^n=((x >>> UInt32.ofNat n).toNat:Int):=by
 have m1:(UInt32.ofNat n).toNat=n:=by rw[UInt32.toNat_ofNat'];omega
 rw[UInt32.toNat_shiftRight,m1,Nat.mod_eq_of_lt h,Nat.shiftRight_eq_div_pow];simp
theorem ztz(x:UInt32):(x.toNat:Int)/(8:Int)=((x >>> 3).toNat:Int):=zgx x 3 (by omega)
theorem zqg(x:UInt32):(x.toNat:Int)/(1024:Int)=((x >>> 10).toNat:Int):=zgx x 10 (by omega)
theorem zgw(x y:UInt8):bits .xor .u8 (x.toNat:Int) (y.toNat:Int)=((x ^^^ y).toNat:Int):=by
 rw[u8_xor_nat _ _ x.toNat_lt y.toNat_lt,UInt8.toNat_xor]
theorem w8_or(x y:UInt8):bits .or .u8 (x.toNat:Int) (y.toNat:Int)=((x ||| y).toNat:Int):=by
 rw[u8_or_nat _ _ x.toNat_lt y.toNat_lt,UInt8.toNat_or]
def n32(x:UInt32):Int:=x.toNat
theorem zem(x y:UInt32):IntKind.u32.wrap (n32 x+n32 y)=n32 (x+y):=zqh x y
theorem zee(x y:UInt32):(n32 x+n32 y)%(4294967296:Int)=n32 (x+y):=zt0 x y
theorem zed(x y:UInt32):bits .xor .u32 (n32 x) (n32 y)=n32 (x ^^^ y):=zw2 x y
theorem zj4(x y:UInt32):bits .and .u32 (n32 x) (n32 y)=n32 (x &&& y):=zw4 x y
theorem zoa(x y:UInt32):bits .or .u32 (n32 x) (n32 y)=n32 (x ||| y):=w32_or x y
theorem zn9(x:UInt32):n32 x/(8:Int)=n32 (x >>> 3):=ztz x
theorem zlk(x:UInt32):n32 x/(1024:Int)=n32 (x >>> 10):=zqg x
theorem zu4(x:UInt32):(4294967295:UInt32) ^^^ x = ~~~ x:=by
 apply UInt32.toBitVec_inj.1
 rw[UInt32.toBitVec_xor,UInt32.toBitVec_not];exact BitVec.allOnes_xor
theorem zhp(x:UInt32):bits .xor .u32 IntKind.u32.max (n32 x)=n32 (~~~ x):=by rw[←zu4];exact zed 4294967295 x
theorem zfj(x:UInt32):0≤n32 x∧n32 x<4294967296:=by have:=x.toNat_lt;unfold n32;omega
end Go.Proofs.YtadopcjppijgiaaGreat
namespace Go.Proofs.YtadopcjppijgiaaGreat.Sh
open Go.RowKit
def rotr(x:UInt32)(n:UInt32):UInt32:=x >>> n ||| x <<< (32-n)
def big1(e:UInt32):UInt32:=rotr e 6 ^^^ rotr e 11 ^^^ rotr e 25
def big0(a:UInt32):UInt32:=rotr a 2 ^^^ rotr a 13 ^^^ rotr a 22
def sm0(x:UInt32):UInt32:=rotr x 7 ^^^ rotr x 18 ^^^ x >>> 3
def sm1(y:UInt32):UInt32:=rotr y 17 ^^^ rotr y 19 ^^^ y >>> 10
structure St where
 a:UInt32
 b:UInt32
 c:UInt32
 d:UInt32
 e:UInt32
 f:UInt32
 g:UInt32
 h:UInt32
def St.list(s:St):List UInt32:=[s.a,s.b,s.c,s.d,s.e,s.f,s.g,s.h]
def tmp1(s:St)(k w:UInt32):UInt32:=s.h+big1 s.e+(s.e &&& s.f ^^^ ~~~ s.e &&& s.g)+k+w
def tmp2(s:St):UInt32:=big0 s.a+(s.a &&& s.b ^^^ s.a &&& s.c ^^^ s.b &&& s.c)
def rnd(s:St)(k w:UInt32):St:=⟨tmp1 s k w+tmp2 s,s.a,s.b,s.c,s.d+tmp1 s k w,s.e,s.f,s.g⟩
def ks:List UInt32:=[0x428a2f98,0x71374491,0xb5c0fbcf,0xe9b5dba5,0x3956c25b,0x59f111f1,0x923f82a4,0xab1c5ed5,0xd807aa98,0x12835b01,0x243185be,0x550c7dc3,0x72be5d74,0x80deb1fe,0x9bdc06a7,0xc19bf174,0xe49b69c1,0xefbe4786,0x0fc19dc6,0x240ca1cc,0x2de92c6f,0x4a7484aa,0x5cb0a9dc,0x76f988da,0x983e5152,0xa831c66d,0xb00327c8,0xbf597fc7,0xc6e00bf3,0xd5a79147,0x06ca6351,0x14292967,0x27b70a85,0x2e1b2138,0x4d2c6dfc,0x53380d13,0x650a7354,0x766a0abb,0x81c2c92e,0x92722c85,0xa2bfe8a1,0xa81a664b,0xc24b8b70,0xc76c51a3,0xd192e819,0xd6990624,0xf40e3585,0x106aa070,0x19a4c116,0x1e376c08,0x2748774c,0x34b0bcb5,0x391c0cb3,0x4ed8aa4a,0x5b9cca4f,0x682e6ff3,0x748f82ee,0x78a5636f,0x84c87814,0x8cc70208,0x90befffa,0xa4506ceb,0xbef9a3f7,0xc67178f2]
def start:St:=⟨0x6a09e667,0xbb67ae85,0x3c6ef372,0xa54ff53a,0x510e527f,0x9b05688c,0x1f83d9ab,0x5be0cd19⟩
def be32(a b c d:UInt8):UInt32:=UInt32.ofNat (((a.toNat*256+b.toNat)*256+c.toNat)*256+d.toNat)
def words(l:List UInt8):Nat→List UInt32
 | 0=>[]
 | t+1 =>
  let r:=words l t
  r ++ [if t<16 then be32 (l.getD (4*t) 0) (l.getD (4*t+1) 0) (l.getD (4*t+2) 0) (l.getD (4*t+3) 0)
    else sm1 (r.getD (t-2) 0)+r.getD (t-7) 0+sm0 (r.getD (t-15) 0)+r.getD (t-16) 0]
theorem words_len(l:List UInt8)(t:Nat):(words l t).length=t:=by
 induction t with
 | zero=>rfl
 | succ t ih=>simp[words,ih]
def rounds(l:List UInt8)(s:St):Nat→St
 | 0=>s
 | t+1=>rnd (rounds l s t) (ks.getD t 0) ((words l (t+1)).getD t 0)
def comp(s:St)(l:List UInt8):St :=
 let v:=rounds l s 64
 ⟨s.a+v.a,s.b+v.b,s.c+v.c,s.d+v.d,s.e+v.e,s.f+v.f,s.g+v.g,s.h+v.h⟩
def fold(l:List UInt8):Nat→St
 | 0=>start
 | k+1=>comp (fold l k) ((l.drop (64*k)).take 64)
def beBytes(n:Nat):Nat→List UInt8
 | 0=>[]
 | k+1=>UInt8.ofNat (n/256^k) :: beBytes n k
def pad(n:Nat):List UInt8:=128 :: (List.replicate ((119-n%64)%64) 0++beBytes (8*n%18446744073709551616) 8)
def wordBytes(x:UInt32):List UInt8:=[(x >>> 24).toUInt8,(x >>> 16).toUInt8,(x >>> 8).toUInt8,x.toUInt8]
def St.bytes(s:St):List UInt8:=s.list.flatMap wordBytes
def sha(l:List UInt8):List UInt8:=(fold (l++pad l.length) ((l++pad l.length).length/64)).bytes
theorem sha_len(l:List UInt8):(sha l).length=32:=by simp[sha,St.bytes,St.list,wordBytes]
theorem ze3(l m:List UInt8):∀k,64*k≤l.length→fold (l++m) k=fold l k
 | 0,_=>rfl
 | k+1,h=>by
  rw[fold,fold,ze3 l m k (by omega),List.drop_append_of_le_length (by omega),List.take_append_of_le_length (by simp;omega)]
structure HSt(l:List UInt8)(st:List UInt32)(op:List UInt8):Prop where
 len:st.length=8
 olen:op.length=64
 open_:op.take (l.length%64)=l.drop (l.length/64*64)
 state:64≤l.length→st=(fold l (l.length/64)).list
theorem hst_nil(st:List UInt32)(op:List UInt8)(h1:st.length=8)(h2:op.length=64):HSt [] st op:=⟨h1,h2,by simp,fun h=>by simp at h⟩
theorem zg2{α:Type}(cs r:List α)(o k:Nat)(ho:o+r.length=k)(hk:k≤cs.length):(splice cs o r).take k=cs.take o++r:=by
 unfold splice
 have e:(cs.take o++r).length=k:=by simp;omega
 rw[←List.append_assoc,List.take_append_of_le_length (by omega),List.take_of_length_le (by omega)]
theorem HSt.part{l p:List UInt8}{st:List UInt32}{op:List UInt8}(h:HSt l st op)(n:Nat)(hn:n≤p.length)(r:l.length%64+n<64):HSt (l++p.take n) st (splice op (l.length%64) (p.take n)):=by
 have hl:(l++p.take n).length=l.length+n:=by simp;omega
 have hm:(l.length+n)%64=l.length%64+n:=by omega
 have hd:(l.length+n)/64=l.length/64:=by omega
 refine⟨h.len,?_,?_,fun h64=>?_⟩
 · rw[length_splice _ _ _ (by simp;have:=h.olen;omega)];exact h.olen
 · rw[hl,hm,hd,zg2 op (p.take n) _ _ (by simp;omega) (by have:=h.olen;omega),h.open_,List.drop_append_of_le_length (by omega)]
 · rw[hl]at h64 ⊢
   rw[hd,ze3 _ _ _ (by omega)];exact h.state (by omega)
theorem HSt.fullBlock{l p:List UInt8}{st:List UInt32}{op:List UInt8}(h:HSt l st op)(n:Nat)(hn:n≤p.length)(he:l.length%64+n=64):splice op (l.length%64) (p.take n)=((l++p.take n).drop (64*(l.length/64))).take 64:=by
 have h1:=zg2 op (p.take n) (l.length%64) 64 (by simp;omega) (by have:=h.olen;omega);have r:(splice op (l.length%64) (p.take n)).length=64:=by rw[length_splice _ _ _ (by simp;have:=h.olen;omega)];exact h.olen
 rw[List.take_of_length_le (by omega),h.open_]at h1;rw[h1,List.drop_append_of_le_length (by omega),show 64*(l.length/64)=l.length/64*64 by omega];have e3:(l.drop (l.length/64*64)++p.take n).length=64:=by simp;omega
 conv=>rhs;rw[List.take_of_length_le (Nat.le_of_eq e3)]
theorem HSt.full{l p:List UInt8}{st:List UInt32}{op:List UInt8}(h:HSt l st op)(n:Nat)(hn:n≤p.length)(he:l.length%64+n=64):HSt (l++p.take n) (comp (fold l (l.length/64)) (splice op (l.length%64) (p.take n))).list (splice op (l.length%64) (p.take n)):=by
 have hl:(l++p.take n).length=l.length+n:=by simp;omega
 have hm:(l.length+n)%64=0:=by omega
 have hd:(l.length+n)/64=l.length/64+1:=by omega
 have r:(splice op (l.length%64) (p.take n)).length=64:=by rw[length_splice _ _ _ (by simp;have:=h.olen;omega)];exact h.olen
 refine⟨rfl,r,?_,fun _=>?_⟩
 · rw[hl,hm,hd,List.take_zero,List.drop_of_length_le (by omega)]
 · rw[hl,hd,fold,ze3 _ _ _ (by omega),←h.fullBlock n hn he]
theorem HSt.ahead{l:List UInt8}{st:List UInt32}{op:List UInt8}(h:HSt l st op)(hk:64≤l.length):st=(fold l (l.length/64)).list:=h.state hk
theorem fold_small{l:List UInt8}(h:l.length<64):fold l (l.length/64)=start:=by rw[Nat.div_eq_of_lt h];rfl
theorem beBytes_len(n k:Nat):(beBytes n k).length=k:=by induction k with|zero=>rfl|succ k ih=>simp[beBytes,ih]
theorem zyg(n:Nat):(n+(pad n).length)%64=0:=by
 unfold pad
 simp only[List.length_cons,List.length_append,List.length_replicate,beBytes_len];omega
theorem HSt.sum{l:List UInt8}{st:List UInt32}{op:List UInt8}(h:HSt (l++pad l.length) st op):st.flatMap wordBytes=sha l:=by
 unfold sha St.bytes
 have:64≤(l++pad l.length).length:=by
  have:=zyg l.length;have h1:0<(pad l.length).length:=by unfold pad;simp
  simp only[List.length_append];omega
 rw[←h.state this]
end Go.Proofs.YtadopcjppijgiaaGreat.Sh
namespace Go.Proofs.YtadopcjppijgiaaGreat.Mc
open Go.RowKit
def padded(s:List UInt8):List UInt8:=s++List.replicate (64-s.length) 0
def key64(k:List UInt8):List UInt8:=padded (if k.length>64 then Sh.sha k else k)
def mask(k:List UInt8)(m:UInt8):List UInt8:=k.map (· ^^^ m)
def tag(k l:List UInt8):List UInt8:=Sh.sha (mask (key64 k) 92++Sh.sha (mask (key64 k) 54++l))
theorem padded_len{s:List UInt8}(h:s.length≤64):(padded s).length=64:=by simp[padded];omega
theorem key64_len(k:List UInt8):(key64 k).length=64:=by
 unfold key64
 split
 · exact padded_len (by rw[Sh.sha_len];omega)
 · exact padded_len (by omega)
theorem mask_len(k:List UInt8)(m:UInt8):(mask k m).length=k.length:=by simp[mask]
theorem tag_len(k l:List UInt8):(tag k l).length=32:=Sh.sha_len _
end Go.Proofs.YtadopcjppijgiaaGreat.Mc
namespace Go.Proofs.YtadopcjppijgiaaGreat.Ch
open Go.RowKit
section
open Sh
def q1(a b c d:UInt32)(r t:UInt32):UInt32 × UInt32 × UInt32 × UInt32 :=
 (a+b,rotr (b ^^^ (c+rotr (d ^^^ (a+b)) r)) t,c+rotr (d ^^^ (a+b)) r,rotr (d ^^^ (a+b)) r)
def quarter(a b c d:UInt32):UInt32 × UInt32 × UInt32 × UInt32 :=
 let x:=q1 a b c d 16 20
 q1 x.1 x.2.1 x.2.2.1 x.2.2.2 24 25
def round(s:List UInt32)(a b c d:Nat):List UInt32 :=
 let q:=quarter (s.getD a 0) (s.getD b 0) (s.getD c 0) (s.getD d 0)
 (((s.set a q.1).set b q.2.1).set c q.2.2.1).set d q.2.2.2
theorem round_len(s:List UInt32)(a b c d:Nat):(round s a b c d).length=s.length:=by simp[round]
def double(s:List UInt32):List UInt32 :=
 round (round (round (round (round (round (round (round s 0 4 8 12) 1 5 9 13) 2 6 10 14) 3 7 11 15) 0 5 10 15) 1 6 11 12) 2 7 8 13) 3 4 9 14
theorem zp4(s:List UInt32):(double s).length=s.length:=by simp[double,round_len]
def rounds(s:List UInt32):Nat→List UInt32
 | 0=>s
 | k+1=>double (rounds s k)
theorem rounds_len(s:List UInt32)(k:Nat):(rounds s k).length=s.length:=by
 induction k with
 | zero=>rfl
 | succ k ih=>rw[rounds,zp4,ih]
def le32(a b c d:UInt8):UInt32:=be32 d c b a
def word(l:List UInt8)(k:Nat):UInt32:=le32 (l.getD (4*k) 0) (l.getD (4*k+1) 0) (l.getD (4*k+2) 0) (l.getD (4*k+3) 0)
def words(l:List UInt8):Nat→List UInt32
 | 0=>[]
 | k+1=>words l k++[word l k]
theorem words_len(l:List UInt8)(k:Nat):(words l k).length=k:=by
 induction k with
 | zero=>rfl
 | succ k ih=>simp[words,ih]
def sigma:List UInt32:=[0x61707865,0x3320646e,0x79622d32,0x6b206574]
def initial(key nonce:List UInt8)(ctr:UInt32):List UInt32:=sigma++(words key 8++(ctr :: words nonce 3))
theorem initial_len(A r:List UInt8)(D:UInt32):(initial A r D).length=16:=by simp[initial,sigma,words_len]
def leBytes(x:UInt32):List UInt8:=[x.toUInt8,(x >>> 8).toUInt8,(x >>> 16).toUInt8,(x >>> 24).toUInt8]
def final(s b:List UInt32):Nat→List UInt8
 | 0=>[]
 | k+1=>final s b k++leBytes (s.getD k 0+b.getD k 0)
theorem final_len(s b:List UInt32)(k:Nat):(final s b k).length=4*k:=by
 induction k with
 | zero=>rfl
 | succ k ih=>simp[final,ih,leBytes];omega
def block(key nonce:List UInt8)(ctr:UInt32):List UInt8:=final (rounds (initial key nonce ctr) 10) (initial key nonce ctr) 16
theorem block_len(A r:List UInt8)(D:UInt32):(block A r D).length=64:=final_len _ _ _
def zeros(n:Nat):List UInt8:=List.replicate n 0
def at_(key:List UInt8)(k:Nat):UInt8:=(block key (zeros 12) (UInt32.ofNat (k/64))).getD (k%64) 0
def piece(key:List UInt8)(p:Nat):Nat→List UInt8
 | 0=>[]
 | n+1=>piece key p n++[at_ key (p+n)]
theorem piece_len(r:List UInt8)(p n:Nat):(piece r p n).length=n:=by
 induction n with
 | zero=>rfl
 | succ n ih=>simp[piece,ih]
theorem piece_add(r:List UInt8)(p n m:Nat):piece r p (n+m)=piece r p n++piece r (p+n) m:=by
 induction m with
 | zero=>simp[piece]
 | succ m ih=>rw[←Nat.add_assoc,piece,ih,piece,List.append_assoc,Nat.add_assoc]
theorem piece_block(r:List UInt8)(p m:Nat)(h:p%64+m≤64):piece r p m=((block r (zeros 12) (UInt32.ofNat (p/64))).drop (p%64)).take m:=by
 induction m with
 | zero=>simp[piece]
 | succ m ih =>
  have hl:=block_len r (zeros 12) (UInt32.ofNat (p/64));rw[piece,ih (by omega),List.take_add_one]
  congr 1
  rw[List.getElem?_drop,at_,show(p+m)/64=p/64 by omega,show(p+m)%64=p%64+m by omega,List.getD_eq_getElem?_getD,List.getElem?_eq_getElem (by omega)]
  rfl
def xor:List UInt8→List UInt8→List UInt8:=List.zipWith (· ^^^ ·)
def turn(key l:List UInt8):List UInt8:=xor l (piece key 0 l.length)
theorem xor_len(a b:List UInt8)(h:a.length=b.length):(xor a b).length=a.length:=by simp[xor,h]
theorem turn_len(r l:List UInt8):(turn r l).length=l.length:=xor_len _ _ (piece_len _ _ _).symm
theorem xor_self(a b:List UInt8)(h:a.length=b.length):xor (xor a b) b=a:=by
 induction a generalizing b with
 | nil=>rfl
 | cons x a ih =>
  cases b with
  | nil=>cases h
  | cons y b =>
   simp only[xor,List.zipWith_cons_cons]at ih ⊢;rw[ih b (by simpa using h),UInt8.xor_assoc,UInt8.xor_self,UInt8.xor_zero]
end
end Go.Proofs.YtadopcjppijgiaaGreat.Ch
namespace Go.Proofs.YtadopcjppijgiaaGreat.Wd
open Go.RowKit
section
open Mc Ch
def salt:List UInt8:=[115,104,97,108,108,111,116]
def expand(k info:List UInt8):List UInt8:=tag k (info++[1])
theorem expand_len(k r:List UInt8):(expand k r).length=32:=tag_len _ _
def derive(s label:List UInt8):List UInt8:=expand (tag salt s) label
theorem derive_len(s label:List UInt8):(derive s label).length=32:=tag_len _ _
def label(r:Nat):List UInt8:=[119,105,100,101,48+UInt8.ofNat r]
def turn(key b:List UInt8)(r:Nat):List UInt8 :=
 if r=2∨r=4 then xor (b.take 32) (tag key (b.drop 32))++b.drop 32
 else b.take 32++xor (b.drop 32) (piece (xor key (b.take 32)) 0 (b.drop 32).length)
theorem turn_len(A b:List UInt8)(r:Nat)(hb:32≤b.length):(turn A b r).length=b.length:=by
 unfold turn
 split
 · rw[List.length_append,xor_len _ _ (by rw[tag_len,List.length_take];omega),List.length_take,List.length_drop];omega
 · rw[List.length_append,xor_len _ _ (by rw[piece_len]),List.length_take,List.length_drop];omega
def rounds(key b:List UInt8):List Nat→List UInt8
 | []=>b
 | r :: rs=>rounds key (turn (derive key (label r)) b r) rs
theorem rounds_len(A b:List UInt8)(rs:List Nat)(hb:32≤b.length):(rounds A b rs).length=b.length:=by
 induction rs generalizing b with
 | nil=>rfl
 | cons r rs ih=>rw[rounds,ih _ (by rw[turn_len _ _ _ hb];exact hb),turn_len _ _ _ hb]
theorem rounds_snoc(A b:List UInt8)(rs:List Nat)(r:Nat):rounds A b (rs++[r])=turn (derive A (label r)) (rounds A b rs) r:=by
 induction rs generalizing b with
 | nil=>rfl
 | cons q rs ih=>rw[List.cons_append,rounds,ih,rounds]
def seal_(key b:List UInt8):List UInt8:=rounds key b [1,2,3,4]
def open_(key b:List UInt8):List UInt8:=rounds key b [4,3,2,1]
theorem seal_len(r b:List UInt8)(hb:32≤b.length):(seal_ r b).length=b.length:=rounds_len _ _ _ hb
def frame(kind idx cnt:UInt8)(id:Nat)(data:List UInt8):List UInt8 :=
 zeros 16++([kind,idx,cnt,0]++(Sh.beBytes id 8++(Sh.beBytes data.length 2++(data++zeros (450-data.length)))))
end
