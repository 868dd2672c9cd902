/- Part of the proof. -/
import Derived.Lib.AppendZerosOnto
import Derived.Test.YtpgpaenloaphaaaGreatPkx39
import Derived.Test.YtpgpaenloaphaaaGreatPkx43
set_option maxRecDepth 100000
set_option maxHeartbeats 0
namespace Go.Proofs.YtpgpaenloaphaaaGreat
open Go.RowKit
theorem zm8{w:World}{base n c:Nat}{e:TypeId}{A:Option Addr}{xs:List Value}(h:w.ownsRow base e 1 (.slice A n c) n xs)(hn:0<n):
 ∃g cs,A=some ⟨g,0,none⟩∧base≤g∧Blk w g e (xs++cs)∧xs.length=n∧(xs++cs).length=c∧c≤maxLen:=by
 obtain⟨h1,h2⟩:=h
 rcases h2 with ⟨_,h0⟩|⟨g,cap,cur,hv,hb,hg,hnc,hm,hsz,hxs⟩
 · omega
 · injection hv with hA hn' hc
   subst hc;have hx:cur.toList.take n=xs:=by simpa using hxs
   refine⟨g,cur.toList.drop n,hA,hb,?_,by simpa using h1,?_,?_⟩
   · rw[←hx,List.take_append_drop]
     exact hg
   · rw[←hx,List.take_append_drop]
     simpa using hsz
   · exact hm
theorem zmp(a b:List UInt8)(i:Nat)(ha:i<a.length)(hb:i<b.length):(Ch.xor a b)[i]? = some (a.getD i 0 ^^^ b.getD i 0):=by
 simp[Ch.xor,List.getElem?_zipWith,List.getD_eq_getElem?_getD,ha,hb]
theorem znr(X S:List UInt8)(i:Nat)(v:UInt8)(hX:X[i]? = some v)(hS:i<S.length):(X.take i++S.drop i).set i v=X.take (i+1)++S.drop (i+1):=by
 have hi:i<X.length:=(gi9.1 hX).1;rw[List.set_append_right _ _ (by simp;omega),List.length_take,Nat.min_eq_left om,Nat.sub_self,List.drop_eq_getElem_cons hS,List.set_cons_zero,List.take_add_one,hX,as9]
 rfl
theorem zgz(key:List UInt8)(hk:key.length=32)(B:Option Addr)(n d:Nat)(bs:List UInt8)(w:World)(h:Rd w B n (u8s bs))(h0:0<n)(hn:n≤1000000):
 Calls Tryz.prog 46 #[.agg (u8s key).toArray,.int .i64 0,.slice B n d] w fun e w'=>∃A' c',e=.returned (.slice A' n c')∧n≤c'∧w'.ownsRow w.heap.size 5 1 (.slice A' n c') n (u8s (Ch.turn key bs))∧Below w.heap.size w w':=by
 have HR:=qh h;have HBL:=qh h.len;have HK:Hid (Blk (w.alloc (.cells (u8s key).toArray 23)) w.heap.size 23 (u8s key)):=Blk.new _ _ _;have HE:Hid (Below w.heap.size w (w.alloc (.cells (u8s key).toArray 23))):=(Below.refl _ w).alloc lr _
 have HY:Hid (Calls Tryz.prog 77 #[.slice (some ⟨w.heap.size,0,none⟩) 32 32,.int .i64 0,.int .i64 n] (w.alloc (.cells (u8s key).toArray 23)) fun e w'=>∃g cs c',e=.returned (.slice (some ⟨g,0,none⟩) n c')∧(u8s (Ch.piece key 0 n)++cs).length=c'∧n≤c'∧c'≤maxLen∧w.heap.size+1≤g∧Blk w' g 5 (u8s (Ch.piece key 0 n)++cs)∧Below (w.alloc (.cells (u8s key).toArray 23)).heap.size (w.alloc (.cells (u8s key).toArray 23)) w'):=by
  refine(zir (some ⟨w.heap.size,0,none⟩) 32 key n _ (HK.out.rdA hk) h0 hn).mono ?_;rintro e w' ⟨A',c',rfl,hc',ho,hB⟩;obtain⟨g,cs,rfl,hg,hb,hl,hcl,hm⟩:=zm8 ho h0;exact⟨g,cs,c',rfl,hcl,hc',hm,by simpa using hg,hb,hB⟩
 obtain⟨S,hS⟩:=ex9 (Ch.piece key 0 n);have HSL:Hid (S.length=n):=(by show _=_;rw[hS,Ch.piece_len]);have HX:Hid (Ch.turn key bs=Ch.xor bs S):=(by show _=_;rw[Ch.turn,hS,h.len]);rw[←hS]at HY;rw[HX.out];have HXL:Hid ((Ch.xor bs S).length=n):=(by show _=_;rw[Ch.xor_len _ _ (by rw[HSL.out];exact h.len),h.len]);have HXG:Hid (∀i,i<n→(Ch.xor bs S)[i]? = some (bs.getD i 0 ^^^ S.getD i 0)):=fun i hi=>zmp bs S i (by rw[HBL.out];exact hi) (by rw[HSL.out];exact hi)
 generalize Ch.xor bs S=X at *;have hn0:(n:Int)≤1000000:=om;clear hS h HX HK
 go_enter Tryz.func46, Tryz.ntmps46
 go_wp2_with (go_at_call 77;(with_reducible refine HY.out.mono ?_);rintro e w1 ⟨g,cs,cc,rfl,hcl,hnc,hcm,hg,hb,hB⟩;have HCC:=qh hcl;have HS1:=qh hb;have HE1:=qtr HE hB;have HG:=qh hg;have HNC:=qh hnc;have HCM:=qh hcm;clear hb hB hg hnc hcm hcl)
 go_loopg [8] n (fun kk q wr=>∃i:Nat,kk=n-i∧q=.int .i64 (i:Int)∧i≤n∧Blk wr g 5 (u8s (X.take i++S.drop i)++cs)∧Below w.heap.size w wr)
 case atStart=>exact⟨0,rfl,rfl,by omega,by rw[List.take_zero,List.drop_zero,List.nil_append];exact HS1.out,HE1.out⟩
 case round =>
  clear HS1 HE1 HY HE;obtain⟨i,hgk,rfl,hi,hA,hE⟩:=hrel
  rcases Nat.lt_or_ge i n with hlt|hge
  · have hlt2:(i:Int)<(n:Int):=om
    obtain⟨b,off,y,rfl,hbw,huy,hcw⟩:=HR.out.u8 (k:=i) hlt;have cy:wr.cell? ⟨b,off+i,none⟩=some (.int .u8 (y.toNat:Int)):=(hE.cell hbw).trans hcw;obtain⟨x,hx⟩:=ex9 (S.getD i 0);have hyd:y=bs.getD i 0:=by rw[gd9,huy];rfl
    have hxl:(u8s (X.take i++S.drop i)++cs)[i]? = some (.int .u8 (x.toNat:Int)):=by
     rw[ll9 (by rw[zaa,la9,List.length_take,List.length_drop,HXL.out,HSL.out];omega),u8s_getElem?,ar9 (by rw[List.length_take,HXL.out];omega),List.length_take,HXL.out,Nat.min_eq_left om,Nat.sub_self,List.getElem?_drop,Nat.add_zero,ge9 (by rw[HSL.out];exact hlt),hx,gd9,ge9 (by rw[HSL.out];exact hlt)]
     rfl
    have cx:wr.cell? ⟨g,i,none⟩=some (.int .u8 (x.toNat:Int)):=(hA.cell i).trans hxl;have fx:wr.drew.frozen? ⟨g,i,none⟩=false:=hA.drew.frozen i;obtain⟨v,hv⟩:=ex9 (x ^^^ y);have hvi:bits .xor .u8 (x.toNat:Int) (y.toNat:Int)=(v.toNat:Int):=by rw[hv];exact zfv x y
    have HXI:Hid (X[i]? = some v):=(by show _=_;rw[HXG.out i hlt,hv,hx,hyd,UInt8.xor_comm])
    have HAx:Hid (Blk (wr.drew.setCell ⟨g,i,none⟩ (.int .u8 (v.toNat:Int))) g 5 (u8s (X.take (i+1)++S.drop (i+1))++cs)):=by
     have h1:=hA.drew.set_ i (.int .u8 (v.toNat:Int));rw[List.set_append_left _ _ (by rw[zaa,la9,List.length_take,List.length_drop,HXL.out,HSL.out];omega),zbg,znr X S i v HXI.out (by rw[HSL.out];exact hlt)]at h1;exact h1
    have HEx:=qh (hE.drew.setCell (p:=⟨g,i,none⟩) (by have:=HG.out;show w.heap.size≤g;omega) (.int .u8 (v.toNat:Int)));have HGK:=qh hgk;have HLT:=qh hlt;have hT:wr.drew.cell? ⟨g,i,none⟩=some (.int .u8 (x.toNat:Int))∧wr.drew.cell? ⟨b,off+i,none⟩=some (.int .u8 (y.toNat:Int)):=⟨cx,cy⟩;clear hA hE hgk cx cy hxl hx hyd hv huy hcw hbw;go_wp2;refine kgo kr 12 (fun w'=>w'.cell? ⟨g,i,none⟩=some (.int .u8 (x.toNat:Int))∧w'.cell? ⟨b,off+i,none⟩=some (.int .u8 (y.toNat:Int))) hT (fun _ _ _ _ _ h=>h) ?_;refine kp 0 (.slice (some ⟨g,0,none⟩) n cc) rfl kr (fun _=>kr) ?_;refine kp 1 (.int .i64 (i:Int)) rfl kr (fun _=>kr) ?_;refine kp 2 (.slice (some ⟨g,0,none⟩) n cc) rfl kr (fun _=>kr) ?_;refine kp 3 (.int .i64 (i:Int)) rfl kr (fun _=>kr) ?_;refine kp 4 (.pointer (some ⟨g,i,none⟩)) rfl kr (fun _=>(zbq (t:=22) (e:=5) (x:=.tmp 22) (y:=.tmp 23) (g:=g) (off:=0) (n:=n) (c:=cc) (p:=i) (sz:=1) rr kr kr hlt kr szU8r).trans (by rw[Nat.mul_one,Nat.zero_add])) ?_;refine kl 5 (.int .u8 (x.toNat:Int)) rfl kr (fun w' hw'=>zb7 (t:=5) (x:=.tmp 24) (p:=⟨g,i,none⟩) rr kr agU8 hw'.1) ?_;refine kp 6 (.slice (some ⟨b,off,none⟩) n d) rfl kr (fun _=>kr) ?_;refine kp 7 (.int .i64 (i:Int)) rfl kr (fun _=>kr) ?_;refine kp 8 (.pointer (some ⟨b,off+i,none⟩)) rfl kr (fun _=>(zbq (t:=22) (e:=5) (x:=.tmp 26) (y:=.tmp 27) (g:=b) (off:=off) (n:=n) (c:=d) (p:=i) (sz:=1) rr kr kr hlt kr szU8r).trans (by rw[Nat.mul_one])) ?_;refine kl 9 (.int .u8 (y.toNat:Int)) rfl kr (fun w' hw'=>zb7 (t:=5) (x:=.tmp 28) (p:=⟨b,off+i,none⟩) rr kr agU8 hw'.2) ?_;refine kp 10 (.int .u8 (v.toNat:Int)) rfl kr (fun _=>Eq.trans (b:=.ok (.value (.int .u8 (bits .xor .u8 (x.toNat:Int) (y.toNat:Int)))) _) kr (by rw[hvi])) ?_;refine kp 11 (.pointer (some ⟨g,i,none⟩)) rfl kr (fun _=>(zbq (t:=22) (e:=5) (x:=.tmp 20) (y:=.tmp 21) (g:=g) (off:=0) (n:=n) (c:=cc) (p:=i) (sz:=1) rr kr kr hlt kr szU8r).trans (by rw[Nat.mul_one,Nat.zero_add])) ?_;intro q8 q9;clear q8 q9;refine AnyK.store 12 (d:=none) (op:=.store 5 (.tmp 31) (.tmp 30)) kr (fun o ho=>zgn (p:=⟨g,i,none⟩) (k:=.u8) (n:=(v.toNat:Int)) ho kr kr szU8r hT.1 fx) kr (fun h=>(by cases h)) ?_;refine AnyK.done kr ?_;clear hT fx hvi;go_wp2;go_roundg (n-(i+1))
    case measure=>have:=HGK.out;have:=HLT.out;omega
    case rel=>exact⟨i+1,rfl,by go_num,by have:=HLT.out;omega,HAx.out,HEx.out⟩
  · obtain rfl:i=n:=om
    have hlt2:¬(i:Int)<(i:Int):=om;rw[tk (by rw[HXL.out];exact lr),List.drop_of_length_le (by rw[HSL.out];exact lr),List.append_nil]at hA;have hlc:(u8s X++cs).length=cc:=by rw[←HCC.out,la9,la9,zaa,zaa,HXL.out,HSL.out]
    have HOW:Hid (wr.ownsRow w.heap.size 5 1 (.slice (some ⟨g,0,none⟩) i cc) i (u8s X)):=by
     refine⟨by rw[zaa,HXL.out,Nat.mul_one],.inr ⟨g,cc,(u8s X++cs).toArray,rfl,(by have:=HG.out;omega),hA,HNC.out,HCM.out,by simpa using hlc,?_⟩⟩;rw[Nat.mul_one,List.toList_toArray,List.take_append_of_le_length (by rw[zaa,HXL.out];exact lr),tk (by rw[zaa,HXL.out];exact lr)]
    have HEx:=qh hE;clear hA hE hgk hlc;go_wp2;go_ret;exact⟨_,_,rfl,HNC.out,HOW.out,HEx.out⟩
section
def za48:List Value:=u8s (List.replicate 48 0)
theorem zmo:za48.length=48:=rfl
theorem zca48:Builtin.zeroCells (Value.int .u8 0).cells 48=za48.toArray:=by kernel_rfl
theorem zcu{P:Program}(w:World)(t tn ty e:TypeId)(i:TypeInfo)(z:Value)(kq kn:IntKind)(ht:P.underlying t=some (.slice e))(htn:P.underlying tn=some (.int kn))(hi:P.info? e=some i)(hz:i.zero=some z)
 (g sLen sCap:Nat) (cur:Array Value) (hgc:w.heap[g]? = some (.cells cur e (0,0)))
 (k:Nat) (h0:0<k) (hs:0<i.size) (news:List Value) (hnews:Builtin.zeroCells z.cells k=news.toArray) (h1:∀u∈news,u.oneCell'=true) (hroom:sLen+k≤sCap) (hfit:sLen*i.size+news.length≤cur.size) (h63:(k:Int)≤9223372036854775807) (h48:k*i.bytes≤281474976710656):
 (Builtin.append_ #[t,tn] ty #[.slice (some ⟨g,0,none⟩) sLen sCap,.int kq k]).run P w =
   .ok (.slice (some ⟨g,0,none⟩) (sLen+k) sCap) (w.setRow g (cur.toList.take (sLen*i.size)++news++cur.toList.drop (sLen*i.size+news.length)).toArray):=by
 have hk:k≠0:=om;have hw:IntKind.i64.wrap (k:Int)=k:=by rw[IntKind.wrap_i64];omega
 have h48i:¬(281474976710656<(k:Int)*(i.bytes:Int)):=by
  rw[←Int.natCast_mul];omega
 have hneg:¬((k:Int)<0):=om;have hns:¬(k*i.size=0):=Nat.mul_ne_zero hk om;have hst:=run_storeCells_at P g (sLen*i.size) e news 0 cur w hgc (by simpa using hfit) h1;simp only[Nat.add_zero]at hst
 simp[Builtin.append_,run_underlying ht,run_underlying htn,sizeOf,typeInfo,zeroValue,hi,hz,asInt,asIntOf,hw,hroom,hneg,hns,h48i,hnews,Addr.add_lit,hst]
theorem zjg{P:Program}(w:World)(base:Nat)(t tn ty e:TypeId)(kn:IntKind)(ht:P.underlying t=some (.slice e))(htn:P.underlying tn=some (.int kn))(i:TypeInfo)(hi:P.info? e=some i)(hz:i.zero=some (.int .u8 0))(hsi:i.size=1)(hby:i.bytes=1)
 (v:Value) (n:Nat) (xs:List Value) (hown:w.ownsRow base e 1 v n xs) (hn:n≤100000) (hbase:base≤w.heap.size):
 ∃v' w',(Builtin.append_ #[t,tn] ty #[v,.int .i64 48]).run P w=.ok v' w'∧w'.ownsRow base e 1 v' (n+48) (xs++za48)∧w.grownBy w' v.ownBlock∧(v'.ownBlock=v.ownBlock∨v'.ownBlock=some w.heap.size):=by
 have hlen:(xs++za48).length=(n+48)*1:=by rw[la9,hown.1,zmo];omega
 have grown:∀(old:Nat),old<n+48→∀(row:Option Nat),
     (w.drew.alloc (.cells (xs.toArray++Builtin.zeroCells (Value.int .u8 0).cells 48++Builtin.zeroCells (Value.int .u8 0).cells (grownCap w (n+48) old e-(n+48))) e)).ownsRow base e 1
       (.slice (some ⟨w.heap.size,0,none⟩) (n+48) (grownCap w (n+48) old e)) (n+48) (xs++za48) ∧
     w.grownBy (w.drew.alloc (.cells (xs.toArray++Builtin.zeroCells (Value.int .u8 0).cells 48++Builtin.zeroCells (Value.int .u8 0).cells (grownCap w (n+48) old e-(n+48))) e)) row:=by
  intro old ho row;have hge:=grownCap_ge w (n+48) old e;have hcm:grownCap w (n+48) old e≤maxLen:=grownCap_le_maxLen w (n+48) old e (by simp only[maxLen];omega);refine⟨⟨hlen,.inr ⟨w.heap.size,_,_,rfl,hbase,heap_alloc_new w.drew _,hge,hcm,?_,?_⟩⟩,⟨rfl,rfl,rfl,by simp,fun k hk _=>heap_alloc_old w.drew _ hk⟩⟩
  · simp only[Array.size_append,List.size_toArray,size_zeroCells,hown.1]
    simp[Value.cells]
    omega
  · rw[zca48]
    simp only[Array.toList_append,List.append_assoc];rw[←as9,←hlen];exact List.take_left
 have h63':((n+48:Nat):Int)≤9223372036854775807:=om
 rcases hown.2 with ⟨rfl,rfl⟩|⟨g,cap,cur,rfl,hbg,hg,hnc,hcm,hcs,htake⟩
 · have hx:xs=[]:=List.eq_nil_of_length_eq_zero (by simpa using hown.1)
   subst hx;have hr:=Lib.run_append_grow_zeros (P:=P) w t tn ty e i (.int .u8 0) .i64 kn ht htn hi hz none 0 0 [] (run_firstCells_none w.drew i.size 0 0 0) 48 om om om h63' om (growslice_fits om (by rw[hby];omega));have hgr:=grown 0 om (Value.ownBlock (.slice none 0 0));exact⟨_,_,hr,hgr.1,hgr.2,Or.inr rfl⟩
 · by_cases hroom:n+48≤cap
   · have hfit:n*i.size+za48.length≤cur.size:=by rw[zmo,hsi,hcs];omega
     have hr:=zcu (P:=P) w t tn ty e i (.int .u8 0) .i64 kn ht htn hi hz g n cap cur hg 48 om om za48 zca48 (zac _) hroom hfit om om;refine⟨_,_,hr,⟨hlen,.inr ⟨g,cap,_,rfl,hbg,setRow_heap w g cur _ e _ hg,hroom,hcm,?_,?_⟩⟩,⟨rfl,rfl,rfl,by simp,fun k _ hk=>setRow_other w g k _ (fun e=>hk (by simp[Value.ownBlock,e]))⟩,Or.inl rfl⟩
     · simp only[List.size_toArray,List.length_append,List.length_take,List.length_drop,Array.length_toList]
       omega
     · rw[hsi,htake,←hlen]
       exact List.take_left
   · have holds:∀j u,xs[j]? = some u→w.cell? ((⟨g,0,none⟩:Addr).add j)=some u:=hown.cells (g:=g) rfl
     have hold:(Builtin.firstCells i.size n (.slice (some ⟨g,0,none⟩) n cap)).run P w.drew=.ok xs.toArray w.drew:=run_firstCells_some w.drew i.size n _ n cap xs (by rw[hsi];exact hown.1) (by simpa using holds);have hr:=Lib.run_append_grow_zeros (P:=P) w t tn ty e i (.int .u8 0) .i64 kn ht htn hi hz (some ⟨g,0,none⟩) n cap xs hold 48 om om om h63' om (growslice_fits om (by rw[hby];omega));have hgr:=grown cap om (Value.ownBlock (.slice (some ⟨g,0,none⟩) n cap));exact⟨_,_,hr,hgr.1,hgr.2,Or.inr rfl⟩
theorem info8m:∃i,Tryz.prog.info? 5 = some i∧i.zero=some (.int .u8 0)∧i.size=1∧i.bytes=1:=by
 have h:(Tryz.prog.info? 5).map (fun i=>(i.zero,i.size,i.bytes))=some (some (.int .u8 0),1,1):=by kernel_rfl
 cases hq:Tryz.prog.info? 5 with
 | none=>simp[hq]at h
 | some i=>simp[hq]at h;exact⟨i,rfl,h.1,h.2.1,h.2.2⟩
section
variable{w:World}{ops:Array Oper}{rest:List Oper}{o:Oper}{a:Act}{K:Act→World→Prop}{Q:Exit→Act→World→Prop}
theorem zke(s:Operand)(ho:o.op=.call { callee:=.builtin .append,args:=#[s,.const (.int .i64 48)],argTypes:=#[22,3] })
 (base:Nat) (v:Value) (n:Nat) (xs:List Value) (hs:a.eval s=v) (hown:w.ownsRow base 5 1 v n xs) (hn:n≤100000) (hbase:base≤w.heap.size)
 (h:∀A' c' w',w'.ownsRow base 5 1 (.slice A' (n+48) c') (n+48) (xs++za48)→n+48≤c'→w.grownBy w' v.ownBlock→(Value.ownBlock (.slice A' (n+48) c')=v.ownBlock∨Value.ownBlock (.slice A' (n+48) c')=some w.heap.size)→K (a.put o.dst (.slice A' (n+48) c')) w'):o.wp Tryz.prog a w K Q:=by
 obtain⟨i,hi,hz,hsi,hby⟩:=info8m;obtain⟨v',w',hrun,h2,h3,h4⟩:=zjg (P:=Tryz.prog) w base 22 3 o.type 5 .i64 Tryz.underlying22 Tryz.underlying3 i hi hz hsi hby v n xs hown hn hbase;have hev : #[s,.const (.int .i64 48)].map a.eval=#[v,.int .i64 48]:=by simp only[List.map_toArray,List.map_cons,List.map_nil,hs];rfl
 obtain⟨A',c',rfl,hc⟩:=zeh h2;refine zci (zcc .append #[s,.const (.int .i64 48)] #[22,3] ho hev fun cs=>?_) (h A' c' w' h2 hc h3 h4);simp only[builtin,Sem.run_bind,hrun,Sem.run_pure,Result.andThen_ok]
end
end
section
theorem zu5{k:Nat}: (u8s (List.replicate k 0)).length=k:=by rw[zaa,lp9]
theorem zc_u8(k:Nat):Builtin.zeroCells (Value.int .u8 0).cells k=(u8s (List.replicate k 0)).toArray:=by
 have h:Builtin.zeroCells (Value.int .u8 0).cells k=madeCells [Value.int .u8 0].toArray (k * [Value.int .u8 0].length):=rfl;rw[h,zho _ sy]
 congr 1
 simp[u8s,u8]
theorem zn7{P:Program}(w:World)(base:Nat)(t tn ty e:TypeId)(kn:IntKind)(ht:P.underlying t=some (.slice e))(htn:P.underlying tn=some (.int kn))(i:TypeInfo)(hi:P.info? e=some i)(hz:i.zero=some (.int .u8 0))(hsi:i.size=1)(hby:i.bytes=1)
 (v:Value) (n:Nat) (xs:List Value) (hown:w.ownsRow base e 1 v n xs) (hn:n≤100000) (k:Nat) (hk0:0<k) (hk1:k≤1000) (hbase:base≤w.heap.size):
 ∃v' w',(Builtin.append_ #[t,tn] ty #[v,.int .i64 (k:Int)]).run P w=.ok v' w'∧w'.ownsRow base e 1 v' (n+k) (xs++(u8s (List.replicate k 0)))∧w.grownBy w' v.ownBlock∧(v'.ownBlock=v.ownBlock∨v'.ownBlock=some w.heap.size):=by
 have hlen:(xs++(u8s (List.replicate k 0))).length=(n+k)*1:=by rw[la9,hown.1,zu5];omega
 have grown:∀(old:Nat),old<n+k→∀(row:Option Nat),
     (w.drew.alloc (.cells (xs.toArray++Builtin.zeroCells (Value.int .u8 0).cells k++Builtin.zeroCells (Value.int .u8 0).cells (grownCap w (n+k) old e-(n+k))) e)).ownsRow base e 1
       (.slice (some ⟨w.heap.size,0,none⟩) (n+k) (grownCap w (n+k) old e)) (n+k) (xs++(u8s (List.replicate k 0))) ∧
     w.grownBy (w.drew.alloc (.cells (xs.toArray++Builtin.zeroCells (Value.int .u8 0).cells k++Builtin.zeroCells (Value.int .u8 0).cells (grownCap w (n+k) old e-(n+k))) e)) row:=by
  intro old ho row;have hge:=grownCap_ge w (n+k) old e;have hcm:grownCap w (n+k) old e≤maxLen:=grownCap_le_maxLen w (n+k) old e (by simp only[maxLen];omega);refine⟨⟨hlen,.inr ⟨w.heap.size,_,_,rfl,hbase,heap_alloc_new w.drew _,hge,hcm,?_,?_⟩⟩,⟨rfl,rfl,rfl,by simp,fun k hk _=>heap_alloc_old w.drew _ hk⟩⟩
  · simp only[Array.size_append,List.size_toArray,size_zeroCells,hown.1]
    simp[Value.cells]
    omega
  · rw[zc_u8]
    simp only[Array.toList_append,List.append_assoc];rw[←as9,←hlen];exact List.take_left
 have h63':((n+k:Nat):Int)≤9223372036854775807:=om
 rcases hown.2 with ⟨rfl,rfl⟩|⟨g,cap,cur,rfl,hbg,hg,hnc,hcm,hcs,htake⟩
 · have hx:xs=[]:=List.eq_nil_of_length_eq_zero (by simpa using hown.1)
   subst hx;have hr:=Lib.run_append_grow_zeros (P:=P) w t tn ty e i (.int .u8 0) .i64 kn ht htn hi hz none 0 0 [] (run_firstCells_none w.drew i.size 0 0 0) k om om om h63' (by rw[hby];omega) (growslice_fits om (by rw[hby];omega));have hgr:=grown 0 om (Value.ownBlock (.slice none 0 0));exact⟨_,_,hr,hgr.1,hgr.2,Or.inr rfl⟩
 · by_cases hroom:n+k≤cap
   · have hfit:n*i.size+(u8s (List.replicate k 0)).length≤cur.size:=by rw[zu5,hsi,hcs];omega
     have hr:=zcu (P:=P) w t tn ty e i (.int .u8 0) .i64 kn ht htn hi hz g n cap cur hg k om om (u8s (List.replicate k 0)) (zc_u8 k) (zac _) hroom hfit om (by rw[hby];omega);refine⟨_,_,hr,⟨hlen,.inr ⟨g,cap,_,rfl,hbg,setRow_heap w g cur _ e _ hg,hroom,hcm,?_,?_⟩⟩,⟨rfl,rfl,rfl,by simp,fun k _ hk=>setRow_other w g k _ (fun e=>hk (by simp[Value.ownBlock,e]))⟩,Or.inl rfl⟩
     · simp only[List.size_toArray,List.length_append,List.length_take,List.length_drop,Array.length_toList]
       omega
     · rw[hsi,htake,←hlen]
       exact List.take_left
   · have holds:∀j u,xs[j]? = some u→w.cell? ((⟨g,0,none⟩:Addr).add j)=some u:=hown.cells (g:=g) rfl
     have hold:(Builtin.firstCells i.size n (.slice (some ⟨g,0,none⟩) n cap)).run P w.drew=.ok xs.toArray w.drew:=run_firstCells_some w.drew i.size n _ n cap xs (by rw[hsi];exact hown.1) (by simpa using holds);have hr:=Lib.run_append_grow_zeros (P:=P) w t tn ty e i (.int .u8 0) .i64 kn ht htn hi hz (some ⟨g,0,none⟩) n cap xs hold k om om om h63' (by rw[hby];omega) (growslice_fits om (by rw[hby];omega));have hgr:=grown cap om (Value.ownBlock (.slice (some ⟨g,0,none⟩) n cap));exact⟨_,_,hr,hgr.1,hgr.2,Or.inr rfl⟩
section
variable{w:World}{ops:Array Oper}{rest:List Oper}{o:Oper}{a:Act}{K:Act→World→Prop}{Q:Exit→Act→World→Prop}
theorem zi9(hgd:o.guard=none)(s y:Operand)(ho:o.op=.call { callee:=.builtin .append,args:=#[s,y],argTypes:=#[22,3] })
 (base:Nat) (v:Value) (n:Nat) (xs:List Value) (hs:a.eval s=v) (hown:w.ownsRow base 5 1 v n xs) (hn:n≤100000) (k:Nat) (ki:Int) (hy:a.eval y=.int .i64 ki) (hki:ki=(k:Int)) (hk0:0<k) (hk1:k≤1000) (hbase:base≤w.heap.size)
 (h:∀A' c' w',w'.ownsRow base 5 1 (.slice A' (n+k) c') (n+k) (xs++u8s (List.replicate k 0))→n+k≤c'→w.grownBy w' v.ownBlock→(Value.ownBlock (.slice A' (n+k) c')=v.ownBlock∨Value.ownBlock (.slice A' (n+k) c')=some w.heap.size)→wpList Tryz.prog ops Q rest (a.put o.dst (.slice A' (n+k) c')) w'):wpList Tryz.prog ops Q (o :: rest) a w:=by
 refine zby hgd fun _ hK=>?_
 obtain⟨i,hi,hz,hsi,hby⟩:=info8m;obtain⟨v',w',hrun,h2,h3,h4⟩:=zn7 (P:=Tryz.prog) w base 22 3 o.type 5 .i64 Tryz.underlying22 Tryz.underlying3 i hi hz hsi hby v n xs hown hn k hk0 hk1 hbase;have hev : #[s,y].map a.eval=#[v,.int .i64 (k:Int)]:=by simp only[List.map_toArray,List.map_cons,List.map_nil,hs,hy,hki]
 obtain⟨A',c',rfl,hc⟩:=zeh h2;refine zci (zcc .append #[s,y] #[22,3] ho hev fun cs=>?_) (hK _ _ (h A' c' w' h2 hc h3 h4));simp only[builtin,Sem.run_bind,hrun,Sem.run_pure,Result.andThen_ok]
end
end
end Go.Proofs.YtpgpaenloaphaaaGreat
