/- Part of the proof. -/
import Derived.Test.YtpgpaenloaphaaaGreatPkx44
import Derived.Test.YtpgpaenloaphaaaGreatPkx47
set_option maxRecDepth 100000
set_option maxHeartbeats 0
namespace Go.Proofs.YtpgpaenloaphaaaGreat
open Go.RowKit
theorem szSp(w:World):(sizeOf 43).run Tryz.prog w=.ok 192 w:=by kernel_rfl
theorem PubR.wrote{w w':World}{g:Nat}{vs:List Value}{ls:List (List UInt8)}(h:PubR w g vs ls)(hw:Wrote g w w'):PubR w' g vs ls:=by
 refine⟨h.1,fun i v hv=>?_⟩;obtain⟨l,A,c,e,hc,hl,hr,ha⟩:=h.2 i v hv;exact⟨l,A,c,e,hc,hl,hr.wrote hw (fun _ ad e2=>(ha ad e2).2),fun ad e2=>⟨Nat.lt_of_lt_of_le (ha ad e2).1 hw.size,(ha ad e2).2⟩⟩
theorem Wrote.fresh{w w1 w2:World}{g g2:Nat}(hb:Wrote g w w1)(h:Only w1 w2 g2)(hg:w.heap.size≤g2):Wrote g w w2 :=
 ⟨h.grown.os.trans hb.os,h.grown.tape.trans hb.tape,h.grown.output.trans hb.output,Nat.le_trans hb.size h.grown.size,fun k hk hne=>(h.grown.block k (Nat.lt_of_lt_of_le hk hb.size) (fun e=>by injection e with e;omega)).trans (hb.block k hk hne)⟩
theorem Sp.pay_at{s:Sp}(h:s.ok):(s.bytes.drop 64).take 32=s.pay:=by
 have e:s.bytes=(s.mac++s.stream)++(s.pay++(s.blind++(s.alpha++s.secret))):=by simp[Sp.bytes]
 rw[e,List.drop_left' (by simp[h.1,h.2.1]),List.take_left' h.2.2.1]
theorem zto(A:Option Addr)(n c:Nat)(ss:List Sp)(w:World)(h:RdS 192 w A n (ss.flatMap Sp.cells))(hok:∀s∈ss,s.ok)(hl:ss.length=n)(hn:n≤1000000):
 Calls Tryz.prog 62 #[.slice A n c] w fun e w'=>∃A',e=.returned (.slice A' n n)∧RdB w' A' n (ss.map Sp.pay)∧Below w.heap.size w w':=by
 have HR:=qh h;have HK:=qh hok;have HL:=qh hl;clear h hok hl
 go_enter Tryz.func62, Tryz.ntmps62
 go_wp2_with (first
  | (at_make;refine zak rfl (.tmp 6) (.tmp 6) 87 rfl 22 (.slice none 0 0) 24 Tryz.underlying87 iSl rfl .i64 .i64 (n:Int) (n:Int) rr rr n n rfl rfl om om om ?_;intro w1 hb1 hg1 hs1;have HE1:=qh (zae hg1);have HB1:=qh hb1;clear hb1 hg1 hs1))
 go_loopg [10] n (fun kk q wr=>∃(k:Nat) (vs:List Value),k≤n∧kk=n-k∧q=.int .i64 k∧Hid (vs.length=k)∧Hid (Blk wr w.heap.size 22 (vs++rep (n-k) (.slice none 0 0)))∧Hid (PubR wr w.heap.size vs ((ss.take k).map Sp.pay))∧Hid (Below w.heap.size w wr))
 case atStart=>exact⟨0,[],Nat.zero_le _,rfl,rfl,rfl,HB1,PubR.nil _ _,HE1⟩
 case round =>
  clear HB1 HE1;obtain⟨k,vs,hkn,hgk,rfl,HVL,HB,HP,HE⟩:=hrel;have HGK:=qh hgk;clear hgk
  by_cases hlt:k<n
  · have hlt2:(k:Int)<(n:Int):=om
    obtain⟨o,ho⟩:∃o,ss[k]? = some o:=⟨_,ge9 (by rw[HL.out];omega)⟩;have hoo:=HK.out o (mg9 ho);obtain⟨b,off,rfl,hb0,hrg⟩:=zee HR.out HK.out ho om
    have HRP:Hid (Rd w (some ⟨b,off+k*192+64,none⟩) 32 (u8s o.pay)):=⟨by rw[zaa,hoo.2.2.1],fun _=>⟨b,off+k*192+64,rfl,hb0,fun j u hu=>by
     have hj:j<32:=by have:=(gi9.1 hu).1;rwa [zaa,hoo.2.2.1]at this
     have h5:=hrg (64+j) u (by
      rw[←Sp.pay_at hoo,←zav,←zbd,List.getElem?_take,if_pos hj,List.getElem?_drop]at hu
      exact hu)
     rwa [show off+k*192+(64+j)=off+k*192+64+j by omega]at h5⟩⟩
    have HNX:Hid ((ss.take k).map Sp.pay++[o.pay]=(ss.take (k+1)).map Sp.pay):=by show _=_;rw[List.take_add_one,ho];simp
    have HPL:Hid ((u8s o.pay).length=32):=by show _=_;rw[zaa,hoo.2.2.1]
    generalize o.pay=PB at *;clear ho hoo hrg
    go_upto_region 6 with (first
    | (at_make;refine zak rfl (.const (.int .i64 32)) (.const (.int .i64 32)) 22 rfl 5 (.int .u8 0) 1 Tryz.underlying22 iU8 rfl .i64 .i64 32 32 rr rr 32 32 rfl rfl om om om ?_;intro w2 hb2 hg2 hs2;have HE2:=qh (HE.out.trans ((zae hg2).mono HE.out.size));have HB2:=qh (HB.out.below (zae hg2) HB.out.lt);have HW2:Hid (Wrote w.heap.size wr w2):=Wrote.of_below (zae hg2);have HN2:=qh hb2;have HG2:Hid (wr.heap.size≠w.heap.size):=by have:=HB.out.lt;show _≠_;omega
       have c2:w2.cell? ⟨w.heap.size,k,none⟩=some (.slice none 0 0):=by rw[HB2.out.cell,ar9 (by rw[HVL.out];exact lr),HVL.out,Nat.sub_self];exact zlr om
       have f2:=HB2.out.frozen k
       clear hb2 hg2 hs2))
    have HB3:Hid (Blk (w2.setCell ⟨w.heap.size,k,none⟩ (.slice (some ⟨wr.heap.size,0,none⟩) 32 32)) w.heap.size 22 ((vs++[.slice (some ⟨wr.heap.size,0,none⟩) 32 32])++rep (n-(k+1)) (.slice none 0 0))):=by
     have h5:=HB2.out.set_ k (.slice (some ⟨wr.heap.size,0,none⟩) 32 32)
     rwa [zpu HVL.out hlt]at h5
    have HW3:Hid (Wrote w.heap.size wr (w2.setCell ⟨w.heap.size,k,none⟩ (.slice (some ⟨wr.heap.size,0,none⟩) 32 32))):=HW2.out.setCell k _;have HN3:Hid (Blk (w2.setCell ⟨w.heap.size,k,none⟩ (.slice (some ⟨wr.heap.size,0,none⟩) 32 32)) wr.heap.size 5 (rep 32 (.int .u8 0))):=HN2.out.far (p:=⟨w.heap.size,k,none⟩) HG2.out _;have HE3:Hid (Below w.heap.size w (w2.setCell ⟨w.heap.size,k,none⟩ (.slice (some ⟨wr.heap.size,0,none⟩) 32 32))):=HE2.out.setCell (p:=⟨w.heap.size,k,none⟩) lr _;obtain⟨w3,hw3⟩:=ex9 ((w2.setCell ⟨w.heap.size,k,none⟩ (.slice (some ⟨wr.heap.size,0,none⟩) 32 32)));rw[←hw3]at HB3 HW3 HN3 HE3;rw[←hw3]
    have hcd:w3.drew.cell? ⟨w.heap.size,k,none⟩=some (.slice (some ⟨wr.heap.size,0,none⟩) 32 32):=by
     rw[HB3.out.drew.cell,ll9 (by rw[la9,HVL.out];simp),ar9 (by rw[HVL.out];exact lr),HVL.out,Nat.sub_self];rfl
    have HRP3:Hid (Rd w3.drew (some ⟨b,off+k*192+64,none⟩) 32 (u8s PB)):=HRP.out.below HE3.out.drew;clear hw3 HB2 HW2 HN2 HE2 c2 f2;go_wp2;refine kgo kr 10 (fun W'=>W'.cell? ⟨w.heap.size,k,none⟩=some (.slice (some ⟨wr.heap.size,0,none⟩) 32 32)) hcd (fun _ _ _ _ _ h=>h) ?_;refine kp 0 (.slice (some ⟨w.heap.size,0,none⟩) n n) rfl kr (fun _=>kr) ?_;refine kp 1 (.int .i64 (k:Int)) rfl kr (fun _=>kr) ?_;refine kp 2 (.pointer (some ⟨w.heap.size,k,none⟩)) rfl kr (fun _=>(zbq (t:=87) (e:=22) (x:=.tmp 17) (y:=.tmp 18) (n:=n) (c:=n) (sz:=1) rr kr kr hlt Tryz.underlying87 szSl).trans (by rw[Nat.mul_one,Nat.zero_add])) ?_;refine kl 3 (.slice (some ⟨wr.heap.size,0,none⟩) 32 32) rfl kr (fun w' hw'=>zaz (t:=22) (x:=.tmp 19) rr kr agSl hw') ?_;refine kp 4 (.slice (some ⟨b,off,none⟩) n c) rfl kr (fun _=>kr) ?_;refine kp 5 (.int .i64 (k:Int)) rfl kr (fun _=>kr) ?_;refine kp 6 (.pointer (some ⟨b,off+k*192,none⟩)) rfl kr (fun _=>zbq (t:=116) (e:=43) (x:=.tmp 21) (y:=.tmp 22) (n:=n) (c:=c) (sz:=192) rr kr kr hlt Tryz.underlying116 szSp) ?_;refine kp 7 (.pointer (some ⟨b,off+k*192,none⟩)) rfl kr (fun _=>kr) ?_;refine kp 8 (.pointer (some ⟨b,off+k*192+64,none⟩)) rfl kr (fun _=>kr) ?_;refine kp 9 (.slice (some ⟨b,off+k*192+64,none⟩) 32 32) rfl kr (fun _=>kr) ?_;intro q8 q9;clear q8 q9;refine AnyK.one 10 rfl kr rfl ?_;refine zla (.tmp 20) (.tmp 26) 22 rfl 5 Tryz.underlying22 zbv wr.heap.size 0 32 32 kr (some ⟨b,off+k*192+64,none⟩) 32 32 kr 5 (rep 32 (.int .u8 0)) HN3.out.drew (u8s PB) HRP3.out (zac _) (by rw[za8];omega) ?_;intro w4 hb4 ho4;refine⟨fun h=>(by cases h),?_⟩
    have hs4:splice (rep 32 (.int .u8 0)) 0 ((u8s PB).take 32)=u8s PB:=by
     rw[tk (by have:=HPL.out;omega)];exact zao _ _ (by rw[za8,HPL.out])
    rw[hs4]at hb4;have HB4:=qh (ho4.blk HB3.out.drew HG2.out.symm);have HW4:=qh (HW3.out.drew.fresh ho4 lr);have HE4:=qh (ho4.below HE3.out.drew HE.out.size HE3.out.size);have HR4:Hid (Rd w4 (some ⟨wr.heap.size,0,none⟩) 32 (u8s PB)):=by have h5:=hb4.rd 0 32 (by have:=HPL.out;omega);rwa [List.drop_zero,tk (by have:=HPL.out;omega)]at h5
    have HP4:Hid (PubR w4 w.heap.size (vs++[.slice (some ⟨wr.heap.size,0,none⟩) 32 32]) ((ss.take (k+1)).map Sp.pay)):=by
     rw[←HNX.out];exact(HP.out.wrote HW4.out).snoc lr HR4.out (fun ad e=>by injection e with e;subst e;exact HG2.out)
    have HVL4:Hid ((vs++[Value.slice (some ⟨wr.heap.size,0,none⟩) 32 32]).length=k+1):=by show _=_;rw[la9,HVL.out];rfl
    refine AnyK.done kr ?_;clear hb4 ho4 hs4 hcd HB3 HW3 HN3 HE3 HRP3;go_wp2;go_roundg (n-(k+1))
    case measure=>have:=HGK.out;omega
    case rel=>exact⟨k+1,_,by omega,rfl,by go_num,HVL4,HB4,HP4,HE4⟩
  · obtain rfl:k=n:=om
    have hlt2:¬(k:Int)<(k:Int):=om
    have HF:Hid (RdB wr (some ⟨w.heap.size,0,none⟩) k (ss.map Sp.pay)):=by
     have hb:=HB.out;have hp:=HP.out;rw[Nat.sub_self,show rep 0 (Value.slice none 0 0)=[] from rfl,List.append_nil]at hb;rw[tk (by rw[HL.out];exact lr)]at hp;exact hp.rdB hb HVL.out
    go_wp2;go_ret;exact⟨_,rfl,HF.out,HE.out⟩
section
section
variable{P:Program}
theorem ze9{e:TypeId}{sz:Nat}(ha:∀w,(isAgg e).run P w=.ok true w)(hs:∀w,(sizeOf e).run P w=.ok sz w)(l:List UInt8)(off:Nat)(w:World):(part e (u8s l).toArray off).run P w=.ok (.agg (u8s ((l.drop off).take sz)).toArray) w:=by
 unfold part
 simp only[Sem.run_bind,ha,hs,Result.andThen_ok,if_true,Sem.run_pure]
 congr 2
 rw[List.extract_toArray,List.extract_eq_take_drop,Nat.add_sub_cancel_left,zbd,zav]
theorem zb5(d:Nat)(xs:Array Value)(w:World):∀fs:List Field,(∀f∈fs,∃v,(part f.type xs f.offset).run P w=.ok v w∧(Op.equalIn d f.type v v).run P w=.ok true w)→(Op.eqFields d xs xs fs).run P w=.ok true w
 | [],_=>by simp[Op.eqFields]
 | f :: fs,h=>by
  obtain⟨v,h1,h2⟩:=h f sy;have ih:=zb5 d xs w fs (fun g hg=>h g (by simp[hg]))
  unfold Op.eqFields
  split
  · simp only[Sem.run_bind,h1,h2,Result.andThen_ok,Bool.not_true,Bool.false_eq_true,if_false,ih]
  · exact ih
end
end
def z768:List UInt8:=List.replicate 768 0
theorem zck:z768.length=768:=lp9
theorem zc76z:Tryz.zeroCells35 = (u8s z768).toArray:=zc76
theorem eqq_76(x y:Value):binOp .eql 35 x y=eqAt 35 x y:=rfl
theorem eqInA{t:TypeId}{n:Nat}(hu:Tryz.prog.underlying t=some (.array n 5))(d:Nat)(x:List UInt8)(hx:x.length=n)(w:World):(Op.equalIn (d+2) t (.agg (u8s x).toArray) (.agg (u8s x).toArray)).run Tryz.prog w=.ok true w:=by
 obtain⟨i,hi⟩:∃i,Tryz.prog.info? 5 = some i:=Option.isSome_iff_exists.1 kr;have hc:Tryz.prog.cellsOf 5 = 1:=by kernel_rfl
 rw[run_equalIn_array w (d+1) _ _ hu hi,hc,List.range_eq_range',←hx,zd4 d 5 kr Tryz.underlying5 x x rfl w x.length 0 om]
 simp
theorem cutN{x:List UInt8}{o n:Nat}(h:o+n≤x.length):((x.drop o).take n).length=n:=by rw[List.length_take,List.length_drop];omega
theorem eqIn34(d:Nat)(x:List UInt8)(hx:x.length=288)(w:World):(Op.equalIn (d+3) 32 (.agg (u8s x).toArray) (.agg (u8s x).toArray)).run Tryz.prog w=.ok true w:=by
 have hf:Tryz.prog.underlying 32 = some (.struct (Tryz.prog.fieldsOf 32)):=by kernel_rfl
 rw[run_equalIn_struct w (d+2) _ _ _ hf kr];refine zb5 (d+2) _ w _ fun f hf=>?_
 unfold Program.fieldsOf at hf
 rw[Tryz.underlying32]at hf;simp only[List.mem_cons,List.not_mem_nil,or_false]at hf
 rcases hf with rfl|rfl|rfl
 · exact⟨_,ze9 (sz:=32) (fun w=>by kernel_rfl) (fun w=>by kernel_rfl) x _ w,eqInA Tryz.underlying23 d _ (cutN (by rw[hx];decide)) w⟩
 · exact⟨_,ze9 (sz:=16) (fun w=>by kernel_rfl) (fun w=>by kernel_rfl) x _ w,eqInA Tryz.underlying29 d _ (cutN (by rw[hx];decide)) w⟩
 · exact⟨_,ze9 (sz:=240) (fun w=>by kernel_rfl) (fun w=>by kernel_rfl) x _ w,eqInA Tryz.underlying30 d _ (cutN (by rw[hx];decide)) w⟩
theorem eqIn76(d:Nat)(x:List UInt8)(hx:x.length=768)(w:World):(Op.equalIn (d+4) 35 (.agg (u8s x).toArray) (.agg (u8s x).toArray)).run Tryz.prog w=.ok true w:=by
 have hf:Tryz.prog.underlying 35 = some (.struct (Tryz.prog.fieldsOf 35)):=by kernel_rfl
 rw[run_equalIn_struct w (d+3) _ _ _ hf kr];refine zb5 (d+3) _ w _ fun f hf=>?_
 unfold Program.fieldsOf at hf
 rw[Tryz.underlying35]at hf;simp only[List.mem_cons,List.not_mem_nil,or_false]at hf
 rcases hf with rfl|rfl
 · exact⟨_,ze9 (sz:=288) (fun w=>by kernel_rfl) (fun w=>by kernel_rfl) x _ w,eqIn34 d _ (by rw[List.length_take,List.length_drop,hx];rfl) w⟩
 · exact⟨_,ze9 (sz:=480) (fun w=>by kernel_rfl) (fun w=>by kernel_rfl) x _ w,eqInA Tryz.underlying33 (d+1) _ (cutN (by rw[hx];decide)) w⟩
theorem eq76s(x:List UInt8)(hx:x.length=768)(w:World):(eqAt 35 (.agg (u8s x).toArray) (.agg (u8s x).toArray)).run Tryz.prog w=.ok (.bool true) w:=by
 unfold eqAt
 rw[run_eql_struct];have h5:=eqIn76 9996 x hx w
 show(((Op.equalIn (9996+4) 35 (.agg (u8s x).toArray) (.agg (u8s x).toArray)).run Tryz.prog w).andThen _)=_
 rw[h5]
 rfl
theorem eq76z(w:World):(eqAt 35 (.agg (u8s z768).toArray) (.agg (u8s z768).toArray)).run Tryz.prog w=.ok (.bool true) w:=eq76s z768 zck w
theorem eq76y(w:World):(eqAt 35 (.agg (u8s z768).toArray) (.agg Tryz.zeroCells35)).run Tryz.prog w=.ok (.bool true) w:=by rw[zc76z];exact eq76z w
theorem pk_ld{w:World}{g:Nat}{t:TypeId}{l:List UInt8}(hb:Blk w g t (u8s l))(hl:l.length=768):(ldAt 35 (.pointer (some ⟨g,0,none⟩))).run Tryz.prog w=.ok (.agg (u8s l).toArray) w :=
 zat hb _ 0 (u8s l) (by rw[List.drop_zero,tk lr]) _ Tryz.underlying35 rfl (by rw[zaa,hl];exact hd76)
theorem pkh_ld{w:World}{g:Nat}{t:TypeId}{l:List UInt8}(hb:Blk w g t (u8s l))(hl:l.length=768):(ldAt 32 (.pointer (some ⟨g,0,none⟩))).run Tryz.prog w=.ok (.agg (u8s (l.take 288)).toArray) w :=
 zat hb _ 0 (u8s (l.take 288)) (by rw[List.drop_zero,zav,zaa,List.length_take,hl];rfl) _ Tryz.underlying32 rfl (by rw[zaa,List.length_take,hl];exact hd34)
section
attribute [local go_sem ↓] zcw
theorem ztp(last:Cm)(hc:last.ok)(A:Option Addr)(n c:Nat)(hs:List Ho)(w:World)(h:RdS 68 w A n (hs.flatMap Ho.cells))(hok:∀s∈hs,s.ok)(hl:hs.length=n)(hn:n≤140737488355328):
 Calls Tryz.prog 53 #[.agg last.cells.toArray,.slice A n c] w fun e w'=>∃A' n',e=.returned (.tuple #[.slice A' n' n',.int .i64 (pathE last hs:Int)])∧(pathE last hs=0→n'=n∧RdS 20 w' A' n ((pathL last hs).flatMap Cm.cells))∧Below w.heap.size w w':=by
 by_cases he:pathE last hs=0
 · refine(zm6 last hc A n c hs w h hok hl he).mono ?_
   rintro e w' ⟨A',rfl,hr,hB⟩;exact⟨A',n,by rw[he];rfl,fun _=>⟨rfl,hr⟩,hB⟩
 · refine(zwx last hc A n c hs w h hok hl hn he).mono ?_
   rintro e w' ⟨rfl,hB⟩;exact⟨none,0,rfl,fun h=>absurd h he,hB⟩
theorem zkm(A C:Option Addr)(n c m d:Nat)(xs:List UInt8)(hs:List Ho)(w:World)(hx:Rd w A n (u8s xs))(hc:n≤c)(hp:RdB w C m (hs.map Ho.pub))(hok:∀s∈hs,s.ok)(hm:hs.length=m):
 Calls Tryz.prog 54 #[.slice A n c,.slice C m d] w fun e w'=>∃A' n' c',e=.returned (.tuple #[.slice A' n' c',.int .i64 (scE xs hs:Int)])∧n'≤c'∧(scE xs hs=0→n'=m∧RdS 192 w' A' m ((scL xs hs).flatMap Sp.cells))∧Below w.heap.size w w':=by
 have hn:xs.length=n:=hx.len
 by_cases hb:n≠32∨m<1∨5<m
 · refine(zsz A C n c m d w hb).mono ?_
   rintro e w' ⟨rfl,rfl⟩;have e2:scE xs hs=2:=by rw[scE,if_pos (by rw[hn,hm];exact hb)]
   exact⟨none,0,0,by rw[e2];rfl,lr,fun h=>(by rw[e2]at h;cases h),Below.refl _ _⟩
 · obtain rfl:n=32:=om
   have e2:scE xs hs=(sch [] [xs] (pubB xs) (hs.map Ho.pub)).2:=by rw[scE,if_neg (by rw[hn,hm];exact hb)]
   refine(zpv A C c m d xs (hs.map Ho.pub) w hx hc hp (fun p hp=>by obtain⟨o,ho,rfl⟩:=List.mem_map.1 hp;exact(hok o ho).2.2.1) om om).mono ?_;rintro e w' ⟨A',n',c',rfl,hn',hr,hl',hB⟩;refine⟨A',n',c',by rw[e2],hn',fun h=>?_,hB⟩;have h7:(scL xs hs).length=hs.length:=(zik h).2.1;have h8:n'=m:=by rw[←hl',←hm];exact h7
   subst h8;exact⟨rfl,hr⟩
theorem zjj(w:World)(ty:TypeId)(a b c:Int):Rd (w.alloc (.cells #[.int .i64 a,.int .i64 b,.int .i64 c] ty)) (some ⟨w.heap.size,0,none⟩) 3 (i64s [a,b,c]):=⟨rfl,fun _=>⟨w.heap.size,0,rfl,by simp,fun j u hu=>by rw[Nat.zero_add];exact((Blk.new w ty (i64s [a,b,c])).cell j).trans hu⟩⟩
theorem zqw(A B H:Option Addr)(na ca nb cb n c:Nat)(xs bs:List UInt8)(last:Cm)(hc:last.ok)(hs:List Ho)(w:World)(hx:Rd w A na (u8s xs))(hca:na≤ca)(hb:Rd w B nb (u8s bs))(hh:RdS 68 w H n (hs.flatMap Ho.cells))(hok:∀s∈hs,s.ok)(hl:hs.length=n)(hn:n≤1400000000000)(he:pbE last xs bs hs≠0):
 Calls Tryz.prog 29 #[.slice A na ca,.agg last.cells.toArray,.slice B nb cb,.slice H n c] w fun e w'=>e=.returned (.tuple #[.agg (u8s z768).toArray,.int .i64 (pbE last xs bs hs:Int)])∧Below w.heap.size w w':=by
 have HH:=qh hh;have HX:=qh hx;have HCL:=qh (Cm.cells_len hc);have hbl:bs.length=nb:=hb.len
 have HPA:Hid (∀W,Below w.heap.size w W→Calls Tryz.prog 53 #[.agg last.cells.toArray,.slice H n c] W fun e w'=>∃A' n',e=.returned (.tuple #[.slice A' n' n',.int .i64 (pathE last hs:Int)])∧Below W.heap.size W w'):=fun W hW=>by
  refine(ztp last hc H n c hs W (hh.bel hW lr) hok hl om).mono ?_;rintro e w' ⟨A',n',rfl,_,hB⟩;exact⟨A',n',rfl,hB⟩
 have HPU:Hid (∀W,Below w.heap.size w W→Calls Tryz.prog 55 #[.slice H n c] W fun e w'=>∃A',e=.returned (.slice A' n n)∧RdB w' A' n (hs.map Ho.pub)∧Below W.heap.size W w'):=fun W hW=>zg8 H n c hs W (hh.bel hW lr) hok hl hn
 have HSC:Hid (∀W C,Below w.heap.size w W→RdB W C n (hs.map Ho.pub)→Calls Tryz.prog 54 #[.slice A na ca,.slice C n n] W fun e w'=>∃A' n' c',e=.returned (.tuple #[.slice A' n' c',.int .i64 (scE xs hs:Int)])∧Below W.heap.size W w'):=fun W C hW hp=>by
  refine(zkm A C na ca n n xs hs W (hx.below hW) hca hp hok hl).mono ?_;rintro e w' ⟨A',n',c',rfl,_,_,hB⟩;exact⟨A',n',c',rfl,hB⟩
 have HLE:Hid (∀W A3,Rd W A3 3 (i64s [(pathE last hs:Int),(scE xs hs:Int),(boE bs:Int)])→Calls Tryz.prog 41 #[.slice A3 3 3] W fun e w'=>e=.returned (.int .i64 (pbE last xs bs hs:Int))∧W=w'):=fun W A3 h3=>by
  have h5:=zhp A3 3 3 _ W h3 om
  rwa [zhq]at h5
 have HPE1:Hid (pathE last hs=1→pbE last xs bs hs=1):=fun h=>pbE_1 h
 have HBO:Hid (boE bs=if nb≠480 then 2 else 0):=by show _=_;rw[boE,hbl]
 obtain⟨Z,HZ,HZl,H1⟩:∃Z:List Value,Hid (Tryz.zeroCells35 = Z.toArray)∧Hid (Z.length=768)∧Hid (∀v∈Z,v.oneCell'=true):=⟨u8s z768,zc76z,by show(u8s _).length=_;rw[zaa];exact zck,zac _⟩;have HZZ:Hid (Z=u8s z768):=by show _=_;have h5:=HZ.out.symm.trans zc76z;simpa using congrArg Array.toList h5
 rw[←HZZ.out];have hi:(Tryz.prog.info? 35).map (·.size)=some Z.length:=by rw[HZl.out];exact hd76
 have HI:=qh hi;obtain⟨C,hC⟩:=ex9 (last.cells);rw[←hC]at HPA HCL ⊢;generalize pathE last hs=PE at *;generalize scE xs hs=SE at *;generalize boE bs=BE at *;generalize pbE last xs bs hs=LE at *;have hLE:¬(LE:Int)=0:=om;have hld:(ldAt 47 (.pointer (some ⟨w.heap.size,0,none⟩))).run Tryz.prog ((w.alloc (.cells C.toArray 47)).alloc (.cells Tryz.zeroCells35 35))=.ok (.agg C.toArray) ((w.alloc (.cells C.toArray 47)).alloc (.cells Tryz.zeroCells35 35)):=cm_ld ((Blk.new w _ C).alloc _) HCL.out;have HE0:Hid (Below w.heap.size w ((w.alloc (.cells C.toArray 47)).alloc (.cells Tryz.zeroCells35 35))):=((Below.refl _ w).alloc lr _).alloc sy _;have HB0:Hid (Blk ((w.alloc (.cells C.toArray 47)).alloc (.cells Tryz.zeroCells35 35)) (w.heap.size+1) 35 Z):=Blk.new' sy HZ.out;clear hh hx hb hi hC hc hok hl he hbl
 by_cases hp1:PE=1
 · have hle1:LE=1:=HPE1.out hp1
   subst hp1;subst hle1;clear HPE1 HBO HLE HSC HPU HX HH hLE;have HPA2:Hid (∀W,Below w.heap.size w W→Calls Tryz.prog 53 #[.agg C.toArray,.slice H n c] W fun e w'=>∃A' n',e=.returned (.tuple #[.slice A' n' n',.int .i64 1])∧Below W.heap.size W w'):=HPA.out;clear HPA
   go_enter Tryz.func29, Tryz.ntmps29
   go_wp2_with (first
    | (go_at_call 53;(refine(HPA2.out _ (by exact HE0.out)).mono ?_);rintro e w1 ⟨A1,n1,rfl,hB1⟩;have HE1:=qtr HE0 hB1;have HB1:=qbl HB0 hB1;clear hB1)
    | (refine zaq rfl 35 [] rfl [] rr _ (zft _) ?_)
    | (refine zbf rfl 35 (.tmp 8) (.tmp 31) rfl (w.heap.size+1) 0 Z rr (by exact congrArg Value.agg HZ.out) 35 Z (by exact HB1.out) HI.out H1.out om ?_;intro w4 hb4 ho4))
   have hB4:=ho4.below HE1.out (Nat.le_succ _) HE1.out.size;rw[zao _ _ rfl]at hb4;exact bodyPost_ret (zaj rfl _ _ _ _ rfl hb4 _ Tryz.underlying35 rfl HI.out) rfl ⟨rfl,hB4⟩
 · have hp1i:¬(PE:Int)=1:=om
   clear HPE1
   by_cases hnb:nb=480
   · subst hnb
     obtain rfl:BE=0:=by rw[HBO.out,if_neg om]
     have HLE2:Hid (∀W A3,Rd W A3 3 (i64s [(PE:Int),(SE:Int),0])→Calls Tryz.prog 41 #[.slice A3 3 3] W fun e w'=>e=.returned (.int .i64 (LE:Int))∧W=w'):=HLE.out;clear HBO HLE
     go_enter Tryz.func29, Tryz.ntmps29
     go_wp2_with (first
      | (go_at_call 53;(refine(HPA.out _ (by exact HE0.out)).mono ?_);rintro e w1 ⟨A1,n1,rfl,hB1⟩;have HE1:=qtr HE0 hB1;have HB1:=qbl HB0 hB1;clear hB1)
      | (go_at_call 55;(refine(HPU.out _ (by exact HE1.out)).mono ?_);rintro e w2 ⟨A2,rfl,hr2,hB2⟩;have HE2:=qtr HE1 hB2;have HB2:=qbl HB1 hB2;have HR2:=qh hr2;clear hB2 hr2)
      | (go_at_call 54;(refine(HSC.out _ _ (by exact HE2.out) (by exact HR2.out)).mono ?_);rintro e w3 ⟨A3,n3,c3,rfl,hB3⟩;have HE3:=qtr HE2 hB3;have HB3:=qbl HB2 hB3;clear hB3)
      | (go_at_call 41;(refine(HLE2.out _ _ (by exact zjj _ _ _ _ _)).mono ?_);rintro e w4 ⟨rfl,rfl⟩;have HE4:=qh (HE3.out.alloc HE3.out.size (.cells #[.int .i64 (PE:Int),.int .i64 (SE:Int),.int .i64 0] 36));have HB4:=qh (HB3.out.alloc (.cells #[.int .i64 (PE:Int),.int .i64 (SE:Int),.int .i64 0] 36)))
      | (refine zaq rfl 35 [] rfl [] rr _ (zft _) ?_)
      | (refine zbf rfl 35 (.tmp 8) (.tmp 50) rfl (w.heap.size+1) 0 Z rr (by exact congrArg Value.agg HZ.out) 35 Z (by exact HB4.out) HI.out H1.out om ?_;intro w5 hb5 ho5))
     have hB5:=ho5.below HE4.out (Nat.le_succ _) HE4.out.size;rw[zao _ _ rfl]at hb5;exact bodyPost_ret (zaj rfl _ _ _ _ rfl hb5 _ Tryz.underlying35 rfl HI.out) rfl ⟨rfl,hB5⟩
   · have hnbi:¬(nb:Int)=480:=om
     obtain rfl:BE=2:=by rw[HBO.out,if_pos hnb]
     have HLE2:Hid (∀W A3,Rd W A3 3 (i64s [(PE:Int),(SE:Int),2])→Calls Tryz.prog 41 #[.slice A3 3 3] W fun e w'=>e=.returned (.int .i64 (LE:Int))∧W=w'):=HLE.out;clear HBO HLE hnb
     go_enter Tryz.func29, Tryz.ntmps29
     go_wp2_with (first
      | (go_at_call 53;(refine(HPA.out _ (by exact HE0.out)).mono ?_);rintro e w1 ⟨A1,n1,rfl,hB1⟩;have HE1:=qtr HE0 hB1;have HB1:=qbl HB0 hB1;clear hB1)
      | (go_at_call 55;(refine(HPU.out _ (by exact HE1.out)).mono ?_);rintro e w2 ⟨A2,rfl,hr2,hB2⟩;have HE2:=qtr HE1 hB2;have HB2:=qbl HB1 hB2;have HR2:=qh hr2;clear hB2 hr2)
      | (go_at_call 54;(refine(HSC.out _ _ (by exact HE2.out) (by exact HR2.out)).mono ?_);rintro e w3 ⟨A3,n3,c3,rfl,hB3⟩;have HE3:=qtr HE2 hB3;have HB3:=qbl HB2 hB3;clear hB3)
      | (go_at_call 41;(refine(HLE2.out _ _ (by exact zjj _ _ _ _ _)).mono ?_);rintro e w4 ⟨rfl,rfl⟩;have HE4:=qh (HE3.out.alloc HE3.out.size (.cells #[.int .i64 (PE:Int),.int .i64 (SE:Int),.int .i64 2] 36));have HB4:=qh (HB3.out.alloc (.cells #[.int .i64 (PE:Int),.int .i64 (SE:Int),.int .i64 2] 36)))
      | (refine zaq rfl 35 [] rfl [] rr _ (zft _) ?_)
      | (refine zbf rfl 35 (.tmp 8) (.tmp 50) rfl (w.heap.size+1) 0 Z rr (by exact congrArg Value.agg HZ.out) 35 Z (by exact HB4.out) HI.out H1.out om ?_;intro w5 hb5 ho5))
     have hB5:=ho5.below HE4.out (Nat.le_succ _) HE4.out.size;rw[zao _ _ rfl]at hb5;exact bodyPost_ret (zaj rfl _ _ _ _ rfl hb5 _ Tryz.underlying35 rfl HI.out) rfl ⟨rfl,hB5⟩
end
section
attribute [local go_sem ↓] zcw
theorem zwl{w:World}{T:Option Addr}{n:Nat}{vs:List Value}{ls:List (List UInt8)}(hr:Rd w T n vs.reverse)(hl:ls.length=n)(hvl:vs.length=n)(hv:∀(i:Nat) (v:Value),vs[i]? = some v→∃l,ls[i]? = some l∧SlB w v l):RdB w T n ls.reverse:=by
 refine⟨vs.reverse,hr,by rw[List.length_reverse,hl],fun i v hi=>?_⟩;have hil:i<n:=by have:=(gi9.1 hi).1;rwa [List.length_reverse,hvl]at this
 rw[List.getElem?_reverse om]at hi;obtain⟨l,h1,h2⟩:=hv _ v hi;refine⟨l,?_,h2⟩;rw[List.getElem?_reverse om,hl,←hvl];exact h1
theorem ztd{vs:List Value}{n t j:Nat}{v:Value}(hl:vs.length=n)(hn:n=t+1+j)(h:vs[t]? = some v):vs.reverse.take j++[v]=vs.reverse.take (j+1):=by
 rw[List.take_add_one,List.getElem?_reverse om,show vs.length-1-j=t by omega,h]
 rfl
theorem zos(A B H:Option Addr)(na ca nb cb n c:Nat)(xs bs:List UInt8)(last:Cm)(hc:last.ok)(hs:List Ho)(w:World)(hx:Rd w A na (u8s xs))(hca:na≤ca)(hb:Rd w B nb (u8s bs))(hcb:nb≤cb)(hh:RdS 68 w H n (hs.flatMap Ho.cells))(hok:∀s∈hs,s.ok)(hl:hs.length=n)(he:pbE last xs bs hs=0):
 Calls Tryz.prog 29 #[.slice A na ca,.agg last.cells.toArray,.slice B nb cb,.slice H n c] w fun e w'=>e=.returned (.tuple #[.agg (u8s (pbL last xs bs hs)).toArray,.int .i64 0])∧Below w.heap.size w w':=by
 obtain⟨hpe,hse,hxl,hb4,hn1,hn5⟩:=pbE_0 he;obtain⟨k,hk⟩:∃k,n=k+1:=⟨n-1,by omega⟩;subst hk;obtain rfl:na=32:=by rw[←hx.len,hxl]
 obtain rfl:nb=480:=by rw[←hb.len,hb4]
 obtain⟨_,hs7,hs8⟩:=zik hse;have hk4:k≤4:=om
 have hhl:(hst (pathL last hs) (scL xs hs) (k+1) (k+1)).length=288:=by
  have h5:=zhu (cs:=pathL last hs) (ss:=scL xs hs) (n:=k+1) (zgi hc hok hpe) hs8 (by rw[zdc,hl]) (by rw[hs7,hl]) om (k+1) lr;exact h5
 have hsl:(sealAll ((scL xs hs).reverse.map Sp.pay) bs).length=480:=by rw[zeq _ _ om,hb4]
 have HPA:Hid (∀W,Below w.heap.size w W→Calls Tryz.prog 53 #[.agg last.cells.toArray,.slice H (k+1) c] W fun e w'=>∃A',e=.returned (.tuple #[.slice A' (k+1) (k+1),.int .i64 0])∧RdS 20 w' A' (k+1) ((pathL last hs).flatMap Cm.cells)∧Below W.heap.size W w'):=fun W hW=>zm6 last hc H (k+1) c hs W (hh.bel hW lr) hok hl hpe
 have HPU:Hid (∀W,Below w.heap.size w W→Calls Tryz.prog 55 #[.slice H (k+1) c] W fun e w'=>∃A',e=.returned (.slice A' (k+1) (k+1))∧RdB w' A' (k+1) (hs.map Ho.pub)∧Below W.heap.size W w'):=fun W hW=>zg8 H (k+1) c hs W (hh.bel hW lr) hok hl om
 have HSC:Hid (∀W C,Below w.heap.size w W→RdB W C (k+1) (hs.map Ho.pub)→Calls Tryz.prog 54 #[.slice A 32 ca,.slice C (k+1) (k+1)] W fun e w'=>∃A' c',e=.returned (.tuple #[.slice A' (k+1) c',.int .i64 0])∧k+1≤c'∧RdS 192 w' A' (k+1) ((scL xs hs).flatMap Sp.cells)∧Below W.heap.size W w'):=fun W C hW hp=>by
  refine(zkm A C 32 ca (k+1) (k+1) xs hs W (hx.below hW) hca hp hok hl).mono ?_;rintro e w' ⟨A',n',c',rfl,hn',hr,hB⟩;obtain⟨rfl,hr9⟩:=hr hse;exact⟨A',c',by rw[hse];rfl,hn',hr9,hB⟩
 have HLE:Hid (∀W A3,Rd W A3 3 (i64s [0,0,0])→Calls Tryz.prog 41 #[.slice A3 3 3] W fun e w'=>e=.returned (.int .i64 0)∧W=w'):=fun W A3 h3=>zhp A3 3 3 _ W h3 om
 have HBD:Hid (∀W A1 A2 c2,RdS 20 W A1 (k+1) ((pathL last hs).flatMap Cm.cells)→RdS 192 W A2 (k+1) ((scL xs hs).flatMap Sp.cells)→k+1≤c2→Calls Tryz.prog 51 #[.slice A1 (k+1) (k+1),.slice A2 (k+1) c2] W fun e w'=>e=.returned (.tuple #[.agg (u8s (hst (pathL last hs) (scL xs hs) (k+1) (k+1))).toArray,.int .i64 0])∧Below W.heap.size W w'):=fun W A1 A2 c2 h1 h2 h3 =>
  zuy A1 A2 k (k+1) c2 (pathL last hs) (scL xs hs) W h1 h2 (zgi hc hok hpe) hs8 (by rw[zdc,hl]) (by rw[hs7,hl]) h3 (by rw[←hl];exact zku hpe)
 have HPY:Hid (∀W A2 c2,RdS 192 W A2 (k+1) ((scL xs hs).flatMap Sp.cells)→Calls Tryz.prog 62 #[.slice A2 (k+1) c2] W fun e w'=>∃A',e=.returned (.slice A' (k+1) (k+1))∧RdB w' A' (k+1) ((scL xs hs).map Sp.pay)∧Below W.heap.size W w'):=fun W A2 c2 h2=>zto A2 (k+1) c2 (scL xs hs) W h2 hs8 (by rw[hs7,hl]) om
 have HSA:Hid (∀W T cT,Below w.heap.size w W→RdB W T (k+1) ((scL xs hs).map Sp.pay).reverse→Calls Tryz.prog 63 #[.slice B 480 cb,.slice T (k+1) cT] W fun e w'=>∃A' c',e=.returned (.tuple #[.slice A' 480 c',.int .i64 0])∧480≤c'∧Rd w' A' 480 (u8s (sealAll ((scL xs hs).reverse.map Sp.pay) bs))∧Below W.heap.size W w'):=fun W T cT hW h3=>by
  rw[←List.map_reverse]at h3;exact zlj B T cb 480 (k+1) cT bs _ W (hb.below hW) hcb h3 (fun x hx=>by obtain⟨s,hs9,rfl⟩:=List.mem_map.1 hx;exact(hs8 s (List.mem_reverse.1 hs9)).2.2.1) om om om
 have HSK:Hid (((scL xs hs).map Sp.pay).length=k+1):=by show _=_;rw[List.length_map,hs7,hl]
 obtain⟨L,hL⟩:=ex9 (pbL last xs bs hs);have hL2:L=hst (pathL last hs) (scL xs hs) (k+1) (k+1)++sealAll ((scL xs hs).reverse.map Sp.pay) bs:=by rw[hL,pbL,hl]
 rw[←hL];generalize hst (pathL last hs) (scL xs hs) (k+1) (k+1)=HQ at *;generalize sealAll ((scL xs hs).reverse.map Sp.pay) bs=SL at *;generalize (scL xs hs).map Sp.pay=SK at *;generalize (scL xs hs).flatMap Sp.cells=SS at *;generalize (pathL last hs).flatMap Cm.cells=CS at *;have HLL:Hid (L=HQ++SL):=hL2;have HHL:=qh hhl;have HSL:=qh hsl;have HCL:=qh (Cm.cells_len hc);obtain⟨C,hC⟩:=ex9 (last.cells);rw[←hC]at HPA HCL ⊢;obtain⟨Z,HZ,HZl,HZ1⟩:∃Z:List Value,Hid (Tryz.zeroCells35 = Z.toArray)∧Hid (Z.length=768)∧Hid (∀v∈Z,v.oneCell'=true):=⟨u8s z768,zc76z,by show(u8s _).length=_;rw[zaa];exact zck,zac _⟩;obtain⟨Y,HY,HYl⟩:∃Z:List Value,Hid (Tryz.zeroCells32 = Z.toArray)∧Hid (Z.length=288):=⟨_,zc34',by show(u8s _).length=_;rw[zaa];simp⟩;have H34:Hid ((Tryz.prog.info? 32).map (·.size)=some (u8s HQ).length):=by show _=_;rw[zaa,HHL.out];exact hd34
 have HF34:Hid ((u8s HQ).length=Y.length):=by show _=_;rw[zaa,HHL.out,HYl.out]
 obtain⟨X,HX,HXl,HX1⟩:∃X:List Value,Hid (X=splice Z 0 (u8s HQ))∧Hid (X.length=768)∧Hid (∀v∈X,v.oneCell'=true):=⟨_,rfl,by
  show(splice _ _ _).length=_
  rw[length_splice _ _ _ (by rw[zaa,HHL.out,HZl.out];omega),HZl.out],by
  show ∀v∈splice _ _ _,_
  intro v hv;simp only[splice,List.mem_append]at hv
  rcases hv with hv|hv|hv
  · exact HZ1.out v (List.mem_of_mem_take hv)
  · exact zac _ v hv
  · exact HZ1.out v (List.mem_of_mem_drop hv)⟩
 have HBU:Hid (∀W,(Instr.build 35 #[(0,.agg (u8s HQ).toArray)]).run Tryz.prog W=.ok (.agg X.toArray) W):=fun W =>
  zce Tryz.zeroValue35 Tryz.underlying35 (pl76 _ Tryz.underlying35) (by
   rw[HZ.out]
   show Instr.fill _ _ [(0,_)]=_
   rw[za5 (cs:=u8s HQ) rfl (by rw[zaa,HHL.out];rfl) (by rw[zaa,HHL.out,HZl.out];omega),HX.out]
   rfl) W
 have H76:Hid ((Tryz.prog.info? 35).map (·.size)=some X.length):=by show _=_;rw[HXl.out];exact hd76
 have HF76:Hid (X.length=Z.length):=by show _=_;rw[HXl.out,HZl.out]
 have HFN:Hid (splice X 288 ((u8s SL).take 480)=u8s L):=by
  show _=_
  rw[HX.out,zfl Z (u8s HQ) _ 288 (by rw[zaa,HHL.out]) (by rw[List.length_take,zaa,HSL.out,HZl.out];omega),zav,tk (by rw[HSL.out];exact lr),←zad,HLL.out]
 have HI:Hid ((Tryz.prog.info? 35).map (·.size)=some (u8s L).length):=by show _=_;rw[zaa,HLL.out,la9,HHL.out,HSL.out];exact hd76
 have HFZ:Hid ((u8s L).length=Z.length):=by show _=_;rw[zaa,HLL.out,la9,HHL.out,HSL.out,HZl.out]
 have hld:(ldAt 47 (.pointer (some ⟨w.heap.size,0,none⟩))).run Tryz.prog ((w.alloc (.cells C.toArray 47)).alloc (.cells Tryz.zeroCells35 35))=.ok (.agg C.toArray) ((w.alloc (.cells C.toArray 47)).alloc (.cells Tryz.zeroCells35 35)):=cm_ld ((Blk.new w _ C).alloc _) HCL.out;have HE0:Hid (Below w.heap.size w ((w.alloc (.cells C.toArray 47)).alloc (.cells Tryz.zeroCells35 35))):=((Below.refl _ w).alloc lr _).alloc sy _;have HB0:Hid (Blk ((w.alloc (.cells C.toArray 47)).alloc (.cells Tryz.zeroCells35 35)) (w.heap.size+1) 35 Z):=Blk.new' sy HZ.out;clear hh hx hb hC hc hok hl he hpe hse hxl hb4 hn1 hn5 hs7 hs8 hhl hsl hL hL2 hca hcb
 go_enter Tryz.func29, Tryz.ntmps29
 go_wp2_with (first
  | (go_at_call 53;(refine(HPA.out _ (by exact HE0.out)).mono ?_);rintro e w1 ⟨A1,rfl,hr1,hB1⟩;have HE1:=qtr HE0 hB1;have HB1:=qbl HB0 hB1;have HR1:=qh hr1;clear hB1 hr1)
  | (go_at_call 55;(refine(HPU.out _ (by exact HE1.out)).mono ?_);rintro e w2 ⟨A2,rfl,hr2,hB2⟩;have HE2:=qtr HE1 hB2;have HB2:=qbl HB1 hB2;have HC2:=qh (HR1.out.belo hB2);have HR2:=qh hr2;clear hB2 hr2)
  | (go_at_call 54;(refine(HSC.out _ _ (by exact HE2.out) (by exact HR2.out)).mono ?_);rintro e w3 ⟨A3,c3,rfl,hc3,hr3,hB3⟩;have HE3:=qtr HE2 hB3;have HB3:=qbl HB2 hB3;have HC3:=qh (HC2.out.belo hB3);have HR3:=qh hr3;clear hB3 hr3)
  | (go_at_call 41;(refine(HLE.out _ _ (by exact zjj _ _ _ _ _)).mono ?_);rintro e w4 ⟨rfl,rfl⟩;have HE4:=qh (HE3.out.alloc HE3.out.size (.cells #[.int .i64 0,.int .i64 0,.int .i64 0] 36));have HB4:=qh (HB3.out.alloc (.cells #[.int .i64 0,.int .i64 0,.int .i64 0] 36));have HC4:=qh (HC3.out.allo (.cells #[.int .i64 0,.int .i64 0,.int .i64 0] 36));have HR4:=qh (HR3.out.allo (.cells #[.int .i64 0,.int .i64 0,.int .i64 0] 36)))
  | (go_at_call 51;(refine(HBD.out _ _ _ _ (by exact HC4.out) (by exact HR4.out) (by exact hc3)).mono ?_);rintro e w5 ⟨rfl,hB5⟩;have HE5:=qtr HE4 hB5;have HB5:=qbl HB4 hB5;have HR5:=qh (HR4.out.belo hB5);clear hB5)
  | (refine zab rfl 32 (.tmp 16) (.tmp 56) rfl w5.heap.size (u8s HQ) rr rr 32 Y (by exact Blk.new' rfl HY.out) H34.out (zac _) HF34.out ?_;intro w6 hb6 ho6;have hD6:Below w5.heap.size w5 w6:=ho6.below ((Below.refl _ w5).alloc lr _) lr sy;have HE6:=qtr HE5 hD6;have HB6:=qbl HB5 hD6;have HR6:=qh (HR5.out.belo hD6);have HH6:=qh hb6;clear hb6 ho6 hD6)
  | (go_at_call 62;(refine(HPY.out _ _ _ (by exact HR6.out)).mono ?_);rintro e w7 ⟨A7,rfl,hr7,hB7⟩;have HE7:=qtr HE6 hB7;have HB7:=qbl HB6 hB7;have HH7:=qbl HH6 hB7;have HR7:=qh hr7;clear hB7 hr7)
  | (at_make;refine zak rfl (.const (.int .i64 0)) (.tmp 65) 87 rfl 22 (.slice none 0 0) 24 Tryz.underlying87 iSl rfl .i64 .i64 0 ((k:Int)+1) rr rr 0 (k+1) rfl om om om om ?_;intro w8 hb8 hg8 hs8;have HO8:=qh (show w8.ownsRow w7.heap.size 22 1 (.slice (some ⟨w7.heap.size,0,none⟩) 0 (k+1)) 0 [] from (by have h5:=zbe (base:=w7.heap.size) hb8 lr 0 (k+1) 1 om (by simp[za8]) om;simpa using h5));have HD8:=qh (zae hg8);clear hb8 hg8 hs8))
 obtain⟨vs,hvr,hvl,hvv⟩:=HR7.out;have HVR:=qh hvr;have HVL:Hid (vs.length=k+1):=hvr.1;have HVV:=qh hvv;clear hvr hvl hvv HR7;have HT0:Hid (vs.reverse.take 0=[]):=rfl
 go_loopg [19,20] (k+1) (fun kk v q wr=>∃(j:Nat),j≤k+1∧kk=k+1-j∧q=.int .i64 ((k:Int)-(j:Int))∧(∃T cT,v=.slice T j cT∧j≤cT∧Hid (wr.ownsRow w7.heap.size 22 1 (.slice T j cT) j (vs.reverse.take j)))∧Hid (Below w7.heap.size w7 wr))
 case atStart=>exact⟨0,by omega,rfl,by go_num,⟨_,k+1,rfl,by omega,HO8⟩,HD8⟩
 case round =>
  clear HO8 HD8;obtain⟨j,hj,hgk,rfl,⟨T,cT,rfl,hcT,HOW⟩,HD⟩:=hrel;have HGK:=qh hgk;clear hgk
  by_cases hlt:j<k+1
  · obtain⟨t,ht⟩:=ex9 (k-j)
    rw[show(k:Int)-(j:Int)=(t:Int) by omega];have ht0:(0:Int)≤(t:Int):=om;have htk:(t:Int)<(k:Int)+1:=om;obtain⟨bP,oP,u,rfl,hbP,hu,hcu⟩:=HVR.out.at_ (k:=t) om;obtain⟨l1,_,A1,n1,c1,rfl,_,_⟩:=HVV.out t u hu;have e48:wr.cell? ⟨bP,oP+t,none⟩=some (.slice A1 n1 c1):=(HD.out.cell hbP).trans hcu;have HST:Hid (vs.reverse.take j++[.slice A1 n1 c1]=vs.reverse.take (j+1)):=ztd HVL.out om hu;have HT:=qh ht;clear ht hu hcu hbP
    go_wp2_with (at_builtin;refine zah rfl (.tmp 74) (.tmp 79) 87 rfl w7.heap.size 22 1 24 Tryz.underlying87 eSl (.slice T j cT) j (vs.reverse.take j) rr (by exact HOW.out.alloc _) (some ⟨wr.heap.size,0,none⟩) 1 1 [.slice A1 n1 c1] rr (by exact RdS.new wr 22 [.slice A1 n1 c1] 1 rfl) (fun v hv=>by rw[List.mem_singleton]at hv;subst hv;rfl) om om (by have:=HD.out.size;simp;omega) ?_;intro A4 c4 w4 hown4 hc4 hg4 hat4;have HO4:=qh hown4;rw[HST.out]at HO4;have HE4:=qh ((HD.out.alloc HD.out.size _).grown hg4 (Nat.le_trans HD.out.size sy) (fun k hk=>by have:=(HOW.out.lt k hk).1;omega));clear hown4 hg4 hat4)
    go_roundg (k+1-(j+1))
    case measure=>have:=HGK.out;omega
    case rel=>exact⟨j+1,by omega,rfl,by have:=HT.out;go_num,⟨A4,c4,rfl,by omega,HO4⟩,HE4⟩
  · obtain rfl:j=k+1:=om
    rw[show(k:Int)-((k+1:Nat):Int)=-1 by omega]
    have HTD:Hid (RdB wr T (k+1) SK.reverse):=by
     have h5:=HOW.out;rw[tk (by rw[List.length_reverse,HVL.out];exact lr)]at h5;refine zwl (Rd.of_own h5) HSK.out HVL.out (fun i v hi=>?_);obtain⟨l,h6,h7⟩:=HVV.out i v hi;exact⟨l,h6,h7.below HD.out⟩
    have HEW:=qh (HE7.out.trans (HD.out.mono HE7.out.size));clear HVR HVV HT0
    go_wp2_with (first
     | (go_at_call 63;(refine(HSA.out _ _ _ (by exact HEW.out) (by exact HTD.out)).mono ?_);rintro e w9 ⟨A9,c9,rfl,hc9,hr9,hB9⟩;have HE9:=qtr HEW hB9;have hD9:=HD.out.trans (hB9.mono HD.out.size);have HB9:=qbl HB7 hD9;have HH9:=qbl HH7 hD9;have hh9:=HH9.out.range;have HR9:=qh hr9;clear hB9 hr9 hD9)
     | (refine wpList_load_mid rfl 32 (.tmp 16) rfl _ 0 rr (u8s HQ) _ hh9 Tryz.underlying32 rfl H34.out ?_)
     | (refine zaq rfl 35 [(0,.tmp 91)] rfl [(0,.agg (u8s HQ).toArray)] rr (.agg X.toArray) (HBU.out _) ?_)
     | (refine zab rfl 35 (.tmp 22) (.tmp 92) rfl w9.heap.size X rr rr 35 Z (by exact Blk.new' rfl HZ.out) H76.out HX1.out HF76.out ?_;intro w10 hb10 ho10;have hD10:Below w9.heap.size w9 w10:=ho10.below ((Below.refl _ w9).alloc lr _) lr sy;have HE10:=qtr HE9 hD10;have HB10:=qbl HB9 hD10;have HR10:=qh (HR9.out.below hD10);have HP10:=qh hb10;clear hb10 ho10 hD10)
     | (refine za6 rfl (.tmp 94) (.tmp 95) 22 rfl 5 Tryz.underlying22 zbv w9.heap.size 288 480 480 rr A9 480 c9 rr 35 X (by exact HP10.out) (u8s SL) (by exact HR10.out) (zac _) (by rw[HXl.out];omega) ?_;intro w11 hb11 ho11;rw[HFN.out]at hb11;have HE11:=qh (ho11.below HE10.out HE9.out.size HE10.out.size);have HB11:=qh (ho11.blk HB10.out (by have:=HB9.out.lt;omega));have hp11:=hb11.range;clear hb11 ho11)
     | (refine wpList_load_mid rfl 35 (.tmp 22) rfl w9.heap.size 0 rr (u8s L) _ hp11 Tryz.underlying35 rfl HI.out ?_)
     | (refine zab rfl 35 (.tmp 8) (.tmp 97) rfl (w.heap.size+1) (u8s L) rr rr 35 Z (by exact HB11.out) HI.out (zac _) HFZ.out ?_;intro w12 hb12 ho12))
    have hB12:=ho12.below HE11.out (Nat.le_succ _) HE11.out.size;exact bodyPost_ret (zaj rfl _ _ _ _ rfl hb12 _ Tryz.underlying35 rfl HI.out) rfl ⟨rfl,hB12⟩
end
section
attribute [local go_sem ↓] zrq eqq_76
theorem zss(f:Nat)(hf:f≠0)(B:Option Addr)(n c:Nat)(w:World):
 Calls Tryz.prog 32 #[.agg (u8s z768).toArray,.int .i64 (f:Int),.slice B n c,.int .i64 (f:Int)] w fun e w'=>e=.returned (.bool true)∧Below w.heap.size w w':=by
 have hf1:¬(f:Int)=0:=om;obtain⟨Z,hZ⟩:=ex9 (u8s z768);have hq:∀W,(eqAt 35 (.agg Z.toArray) (.agg Tryz.zeroCells35)).run Tryz.prog W=.ok (.bool true) W:=fun W=>by rw[hZ];exact eq76y W
 have hld:(ldAt 35 (.pointer (some ⟨w.heap.size,0,none⟩))).run Tryz.prog (w.alloc (.cells Z.toArray 35))=.ok (.agg Z.toArray) (w.alloc (.cells Z.toArray 35)):=by
  rw[hZ];exact pk_ld (Blk.new _ _ _) zck
 rw[←hZ];have HE:Hid (Below w.heap.size w (w.alloc (.cells Z.toArray 35))):=(Below.refl _ w).alloc lr _;clear hZ hf
 go_enter Tryz.func32, Tryz.ntmps32
 go_wp2;go_ret;exact⟨rfl,HE.out⟩
theorem zvu(l:List UInt8)(hl:l.length=768)(B:Option Addr)(c:Nat)(w:World)(h:Rd w B 768 (u8s l)):
 Calls Tryz.prog 32 #[.agg (u8s l).toArray,.int .i64 0,.slice B 768 c,.int .i64 0] w fun e w'=>e=.returned (.bool true)∧Below w.heap.size w w':=by
 have HR:=qh h;have HPB:=qh (fun W=>zeg l W hl)
 have HEQ:Hid (∀W A c5,Rd W A 768 (u8s l)→Rd W B 768 (u8s l)→Calls Tryz.prog 13 #[.slice A 768 c5,.slice B 768 c] W fun e w'=>e=.returned (.bool true)∧∃q,w'=W.drewN q):=fun W A c5 h1 h2=>by
  have h5:=zk6 A B 768 768 c5 c l l W h1 h2 om om
  simpa using h5
 have hld:(ldAt 35 (.pointer (some ⟨w.heap.size,0,none⟩))).run Tryz.prog (w.alloc (.cells (u8s l).toArray 35))=.ok (.agg (u8s l).toArray) (w.alloc (.cells (u8s l).toArray 35)):=pk_ld (Blk.new _ _ _) hl;have HE:Hid (Below w.heap.size w (w.alloc (.cells (u8s l).toArray 35))):=(Below.refl _ w).alloc lr _;generalize u8s l=L at *;clear hl h
 go_enter Tryz.func32, Tryz.ntmps32
 go_wp2_with (first
  | (go_at_call 14;(refine(HPB.out _).mono ?_);rintro e w1 ⟨A1,c1,rfl,hc1,hown1,hB1⟩;have HE1:=qtr HE hB1;have HO1:=qh (Rd.of_own hown1);clear hc1 hown1 hB1)
  | (go_at_call 13;(refine(HEQ.out _ _ _ (by exact HO1.out) (by exact HR.out.below HE1.out)).mono ?_);rintro e w2 ⟨rfl,q2,rfl⟩))
 go_ret;exact⟨rfl,below_drewN HE1.out _⟩
end
end Go.Proofs.YtpgpaenloaphaaaGreat
