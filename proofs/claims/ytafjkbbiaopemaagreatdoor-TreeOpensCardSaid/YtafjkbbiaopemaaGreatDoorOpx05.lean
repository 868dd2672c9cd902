/- Part of the proof. -/
import Derived.Test.YtafjkbbiaopemaaGreatDoorOpx04
set_option linter.all false
set_option maxRecDepth 100000
set_option maxHeartbeats 0
namespace Go.Proofs.YtafjkbbiaopemaaGreatDoor.Lx
open Go.RowKit
theorem skip_len(c:Bool)(r:List UInt8):(skip c r).length≤r.length:=by
 induction r generalizing c with
 | nil=>cases c <;> simp[skip]
 | cons x r ih =>
  unfold skip
  split
  · split
    · exact Nat.le_trans (ih _) (by simp)
    · exact Nat.le_trans (ih _) (by simp)
  · split
    · exact Nat.le_trans (ih _) (by simp)
    · split
      · exact Nat.le_trans (ih _) (by simp)
      · exact Nat.le_refl _
theorem zjv(x:UInt8)(r:List UInt8):skip false (x :: r)=if blank x=true then skip false r else if (x == 35)=true then skip true r else x :: r:=by simp[skip]
theorem zqr(x:UInt8)(r:List UInt8):skip true (x :: r)=if (x == 10)=true then skip false r else skip true r:=by simp[skip]
theorem skip_skip(c:Bool)(r:List UInt8):skip false (skip c r)=skip c r:=by
 induction r generalizing c with
 | nil=>cases c <;> simp[skip]
 | cons x r ih =>
  cases c
  · by_cases hb:blank x=true
    · rw[zjv,if_pos hb]
      exact ih _
    · by_cases h:(x == 35)=true
      · rw[zjv,if_neg hb,if_pos h]
        exact ih _
      · rw[zjv,if_neg hb,if_neg h,zjv,if_neg hb,if_neg h]
  · by_cases h:(x == 10)=true
    · rw[zqr,if_pos h]
      exact ih _
    · rw[zqr,if_neg h]
      exact ih _
theorem zon:∀(f:Nat) (r acc:List UInt8) (b x:List UInt8),text f r acc=.inr (b,x)→x.length<r.length:=by
 intro f
 induction f with
 | zero=>intro r acc b x h;cases h
 | succ f ih =>
  intro r acc b x h
  unfold text at h
  cases r with
  | nil=>cases h
  | cons c r =>
   simp only[]at h
   split at h
   · injection h with h;injection h with _ h;subst h;simp
   · split at h
     · split at h
       · cases h
       · have:=ih _ _ _ _ h
         simp at this ⊢
         omega
     · split at h
       · cases h
       · have:=ih _ _ _ _ h
         simp
         omega
theorem token_len{c:UInt8}{r:List UInt8}{k:Nat}{t:List UInt8}{m:Nat}{x:List UInt8}(h:token (c :: r)=.inr (k,t,m,x)):x.length<(c :: r).length:=by
 unfold token at h
 simp only[]at h
 split at h
 · rename_i hl
   split at h
   · cases h
   · injection h with h;injection h with _ h;injection h with _ h;injection h with _ h
     subst h;have:0<((c :: r).takeWhile alnum).length:=by simp[alnum,hl]
     rw[List.length_drop]
     simp at this ⊢
     omega
 · split at h
   · rename_i hl hd
     split at h
     · cases h
     · split at h
       · cases h
       · injection h with h;injection h with _ h;injection h with _ h;injection h with _ h
         subst h;have:0<((c :: r).takeWhile digit).length:=by simp[hd]
         rw[List.length_drop]
         simp at this ⊢
         omega
   · split at h
     · split at h
       · cases h
       · rename_i b y hy
         injection h with h;injection h with _ h;injection h with _ h;injection h with _ h
         subst h;have:=zon _ _ _ _ _ hy
         simp
         omega
     · split at h
       · injection h with h;injection h with _ h;injection h with _ h;injection h with _ h
         subst h
         simp
       · cases h
theorem scan_fuel(n:Nat):∀(f:Nat) (r:List UInt8) (acc:List Tok),r.length<f→∀g,r.length<g→scanF n f r acc=scanF n g r acc:=by
 intro f
 induction f with
 | zero=>intro r acc h;omega
 | succ f ih =>
  intro r acc h g hg;obtain⟨g,rfl⟩:∃g',g=g'+1:=⟨g-1,by omega⟩
  unfold scanF
  have hl:=skip_len false r
  cases hs:skip false r with
  | nil=>rfl
  | cons c r1 =>
   rw[hs]at hl;simp only[]
   cases ht:token (c :: r1)with
   | inl x=>rfl
   | inr p =>
    obtain⟨k,t,m,x⟩:=p;have:=token_len ht;exact ih _ _ (by omega) g (by omega)
theorem scan_skip(n f:Nat)(r:List UInt8)(acc:List Tok):scanF n (f+1) r acc=scanF n (f+1) (skip false r) acc:=by
 unfold scanF
 rw[skip_skip]
theorem scan_end(n f:Nat)(acc:List Tok):scanF n (f+1) [] acc=.inr (acc++[⟨6,[],0,n⟩]):=by
 unfold scanF
 rfl
theorem scan_step(n f:Nat)(c:UInt8)(r:List UInt8)(acc:List Tok)(hs:skip false (c :: r)=c :: r):
 scanF n (f+1) (c :: r) acc=match token (c :: r)with | .inl x=>.inl x | .inr (k,t,m,x)=>scanF n f x (acc++[⟨k,t,m,n-(c :: r).length⟩]):=by
 conv=>lhs;unfold scanF
 rw[hs] <;> rfl
theorem zih:∀(f:Nat) (r acc:List UInt8) (b x:List UInt8),text f r acc=.inr (b,x)→∃q,x=r.drop q:=by
 intro f
 induction f with
 | zero=>intro r acc b x h;cases h
 | succ f ih =>
  intro r acc b x h
  unfold text at h
  cases r with
  | nil=>cases h
  | cons c r =>
   simp only[]at h
   split at h
   · injection h with h;injection h with _ h;exact⟨1,by rw[←h];rfl⟩
   · split at h
     · split at h
       · cases h
       · obtain⟨q,hq⟩:=ih _ _ _ _ h
         exact⟨_,by rw[hq,List.drop_drop]⟩
     · split at h
       · cases h
       · obtain⟨q,hq⟩:=ih _ _ _ _ h
         exact⟨q+1,by rw[hq];rfl⟩
theorem token_suffix{r:List UInt8}{k:Nat}{t:List UInt8}{m:Nat}{x:List UInt8}(h:token r=.inr (k,t,m,x)):∃q,x=r.drop q:=by
 cases r with
 | nil=>cases h
 | cons c r =>
  unfold token at h
  simp only[]at h
  split at h
  · split at h
    · cases h
    · injection h with h;injection h with _ h;injection h with _ h;injection h with _ h
      exact⟨_,h.symm⟩
  · split at h
    · split at h
      · cases h
      · split at h
        · cases h
        · injection h with h;injection h with _ h;injection h with _ h;injection h with _ h
          exact⟨_,h.symm⟩
    · split at h
      · split at h
        · cases h
        · rename_i b y hy
          injection h with h;injection h with _ h;injection h with _ h;injection h with _ h
          obtain⟨q,hq⟩:=zih _ _ _ _ _ hy;exact⟨q+1,by rw[←h,hq];rfl⟩
      · split at h
        · injection h with h;injection h with _ h;injection h with _ h;injection h with _ h
          exact⟨1,by rw[←h];rfl⟩
        · cases h
end Go.Proofs.YtafjkbbiaopemaaGreatDoor.Lx
namespace Go.Proofs.YtafjkbbiaopemaaGreatDoor
open Go.RowKit
theorem zav{P:Program}{w:World}{fn:Func}{p u:Tmp}{ty:TypeId}(h:fn.results=#[.tmp u,.cell p ty])(tmps:Array Value)(g:Nat)(t:TypeId)(cs:List Value)(hp:tmps.getD p undef=.pointer (some ⟨g,0,none⟩))
 (hB:Blk w g t cs) (d:TypeDesc) (hu:P.underlying ty=some d) (hd:d.isRow=true) (hi:(P.info? ty).map (·.size)=some cs.length):
 (results fn tmps).run P w=.ok (.tuple #[tmps.getD u undef,.agg cs.toArray]) w:=by
 have hp':tmps[p]?.getD undef=.pointer (some ⟨g,0,none⟩):=by rw[←hp];simp
 simp[results,h,hp',asAddr,run_loadVar_mid w g 0 ty cs d hB.range hu hd hi]
def faultV(p:Nat × Nat):List Value:=[.int .i64 p.1,.int .i64 p.2]
def ScanPost(w:World)(r:(Nat × Nat) × List Lx.Tok)(e:Ending)(w':World):Prop :=
 ∃A c,e=.returned (.tuple #[.slice A r.2.length c,.agg (faultV r.1).toArray])∧r.2.length≤c∧w'.ownsRow w.heap.size 72 4 (.slice A r.2.length c) r.2.length (toksCells r.2)∧Below w.heap.size w w'
theorem hd48:(Tryz.prog.info? 29).map (·.size)=some 2:=by kernel_rfl
theorem zox(s:ByteArray)(w:World)(hs:8000<s.size):Calls Tryz.prog 45 #[.string s] w (ScanPost w (Lx.scan s.data.toList)):=by
 have hsc:Lx.scan s.data.toList=((2,0),[]):=by unfold Lx.scan;rw[if_pos (by simpa using hs)]
 rw[hsc];have e1:decide ((8000:Int)<(s.size:Int))=true:=by simp;omega
 go_enter Tryz.func45, Tryz.ntmps45
 go_wp2_with fail
 exact bodyPost_ret (zav rfl _ w.heap.size 29 [.int .i64 2,.int .i64 0] rfl (Blk.new w _ _) _ Tryz.underlying29 rfl hd48) rfl
   ⟨none,0,rfl,lr,World.ownsRow_nil _ _ _ _,(Below.refl _ _).alloc lr _⟩
structure Mid(w:World)(s:ByteArray)(R:Sum (List UInt8) (List Lx.Tok))(j:Nat)(ts:List Lx.Tok)(wr:World):Prop where
 st:St wr (w.heap.size+1) (w.heap.size+1) s j ts
 ft:Blk wr w.heap.size 29 [.int .i64 0,.int .i64 0]
 bel:Below w.heap.size w wr
 le:j≤s.size
 few:ts.length≤j
 sk:Lx.skip false (s.data.toList.drop j)=s.data.toList.drop j
 res:R=Lx.scanF s.size (s.size-j+1) (s.data.toList.drop j) ts
theorem zsg{w wr:World}{s:ByteArray}{R:Sum (List UInt8) (List Lx.Tok)}{j:Nat}{ts:List Lx.Tok}(h:Mid w s R j ts wr)(hj:j<s.size){x:List UInt8}(ht:Lx.token (s.data.toList.drop j)=.inl x):R=.inl x:=by
 have hx:=zbd s j hj;have hc:=zah hx;have h1:=h.res;have hs:=h.sk;rw[hc]at h1 hs ht;rw[Lx.scan_step _ _ _ _ _ hs,ht]at h1;exact h1
theorem zsf{w wr:World}{s:ByteArray}{R:Sum (List UInt8) (List Lx.Tok)}{j:Nat}{ts:List Lx.Tok}(h:Mid w s R j ts wr)(hj:s.size≤j):R=.inr (ts++[⟨6,[],0,s.size⟩]):=by
 have h1:=h.res;rw[List.drop_eq_nil_of_le (by simpa using hj),Lx.scan_end]at h1;exact h1
theorem zp0{w wr:World}{s:ByteArray}{R:Sum (List UInt8) (List Lx.Tok)}{j:Nat}{ts:List Lx.Tok}(h:Mid w s R j ts wr)(hj:j<s.size){k m:Nat}{t x:List UInt8}(ht:Lx.token (s.data.toList.drop j)=.inr (k,t,m,x))
 (i':Nat) (hi:i'≤s.size) (hx:x=s.data.toList.drop i') (j':Nat) (hj':j'≤s.size) (hd:s.data.toList.drop j'=Lx.skip false (s.data.toList.drop i')):
 j<i'∧R=Lx.scanF s.size (s.size-j'+1) (s.data.toList.drop j') (ts++[⟨k,t,m,j⟩]):=by
 have hxx:=zbd s j hj;have hc:=zah hxx;have h1:=h.res;have hs:=h.sk
 have hlen:x.length<(s.data.toList.drop j).length:=by
  rw[hc]at ht ⊢;exact Lx.token_len ht
 have hlj:(s.data.toList.drop j).length=s.size-j:=by simp
 have hli:x.length=s.size-i':=by rw[hx];simp
 have hlt:j<i':=om;refine⟨hlt,?_⟩;rw[hc]at h1 hs ht;rw[Lx.scan_step _ _ _ _ _ hs,ht]at h1;simp only[]at h1;rw[←hc,hlj,show s.size-(s.size-j)=j from by omega]at h1;rw[h1,hx];have hf:(s.data.toList.drop i').length<s.size-j:=by rw[←hx];omega
 obtain⟨f,hfe⟩:∃f,s.size-j=f+1:=⟨s.size-j-1,by omega⟩;rw[hfe,Lx.scan_skip,←hd];have hl2:(s.data.toList.drop j').length≤(s.data.toList.drop i').length:=by rw[hd];exact Lx.skip_len _ _
 exact Lx.scan_fuel _ _ _ _ om _ sy
theorem zj0{s:ByteArray}(hs:s.size≤8000){x:List UInt8}(h:Lx.scanF s.size (s.size+1) s.data.toList []=.inl x):Lx.scan s.data.toList=((9,s.size-x.length),[]):=by
 have e:s.data.toList.length=s.size:=by simp
 unfold Lx.scan
 rw[if_neg om,e,h]
theorem zjz{s:ByteArray}(hs:s.size≤8000){ts:List Lx.Tok}(h:Lx.scanF s.size (s.size+1) s.data.toList []=.inr ts):Lx.scan s.data.toList=((0,0),ts):=by
 have e:s.data.toList.length=s.size:=by simp
 unfold Lx.scan
 rw[if_neg om,e,h]
theorem St.of_skip{w w':World}{B g:Nat}{s:ByteArray}{i j:Nat}{ts:List Lx.Tok}{lv:Value}(h:St w B g s i ts)(hl:w.cell? ⟨g,2,none⟩=some lv)(hb:Blk w' g 125 (scn s j lv))(ho:Only w w' g):St w' B g s j ts:=by
 obtain⟨⟨A,c,h1,h2⟩,hle⟩:=h;rw[scn2 h1]at hl
 injection hl with hl
 subst hl;exact⟨⟨A,c,hb,h2.kept ho.grown (.inr (zb0 h2 h1 (by decide)))⟩,hle⟩
theorem zg3{s:ByteArray}{j:Nat}{k m:Nat}{t x:List UInt8}(ht:Lx.token (s.data.toList.drop j)=.inr (k,t,m,x)):x=s.data.toList.drop (s.size-x.length):=by
 obtain⟨q,hq⟩:=Lx.token_suffix ht;rw[List.drop_drop]at hq;have hl:x.length=s.size-(j+q):=by rw[hq];simp
 rcases Nat.lt_or_ge (j+q) s.size with h|h
 · rw[show s.size-x.length=j+q from by omega]
   exact hq
 · rw[List.drop_eq_nil_of_le (by simpa using h)]at hq
   subst hq;rw[List.drop_eq_nil_of_le sy]
theorem zrh(B g:Nat)(s:ByteArray)(i:Nat)(ts:List Lx.Tok)(w:World)(h:St w B g s i ts)(hi:i≤s.size)(hs:s.size≤8000):
 Calls Tryz.prog 78 #[.pointer (some ⟨g,0,none⟩)] w fun e w' =>
  e=.returned (.tuple #[])∧∃j,i≤j∧j≤s.size∧s.data.toList.drop j=Lx.skip false (s.data.toList.drop i)∧St w' B g s j ts∧Only w w' g:=by
 obtain⟨⟨A3,c3,hb3,hown3⟩,hle3⟩:=id h;refine(zjx g s i _ _ hb3 hi hs).mono ?_;rintro e w3 ⟨rfl,j',hj0',hj',hb4,ho4,hd4⟩;exact⟨rfl,j',hj0',hj',hd4,h.of_skip (scn2 hb3) hb4 ho4,ho4⟩
theorem zk4(s:ByteArray)(w:World)(hs:s.size≤8000):Calls Tryz.prog 45 #[.string s] w (ScanPost w (Lx.scan s.data.toList)):=by
 obtain⟨R,hR⟩:=ex9 (Lx.scanF s.size (s.size+1) s.data.toList []);have HR:=qh hR;clear hR;have e1:decide ((8000:Int)<(s.size:Int))=false:=by simp;omega
 have hb0:Blk ((w.alloc (.cells #[.int .i64 0,.int .i64 0] 29)).alloc (.cells #[.string s,.int .i64 0,.slice none 0 0] 125)) (w.heap.size+1) 125 (scn s 0 (.slice none 0 0)):=Blk.new' sy rfl
 go_enter Tryz.func45, Tryz.ntmps45
 go_wp2_with (go_at_call 78;refine(zjx (w.heap.size+1) s 0 (.slice none 0 0) _ hb0 (Nat.zero_le _) hs).mono ?_;rintro e w1 ⟨rfl,j,hj0,hj,hb1,ho1,hd1⟩)
 rw[List.drop_zero]at hd1
 have hM:Mid w s R j [] w1:=by
  refine⟨⟨⟨none,0,hb1,World.ownsRow_nil _ _ _ _⟩,lr⟩,ho1.blk ((Blk.new' rfl rfl).alloc _) om,ho1.below (((Below.refl _ _).alloc lr _).alloc sy _) om (by simp;omega),hj,Nat.zero_le _,by rw[hd1,Lx.skip_skip],?_⟩;rw[HR.out,Lx.scan_skip,←hd1];exact Lx.scan_fuel _ _ _ _ (by simp;omega) _ sy
 have HM:=qh hM;clear hM hb1 ho1 hd1 hb0
 go_loopg [5] (s.size-j) (fun k _ wr=>∃(j:Nat) (ts:List Lx.Tok),k=s.size-j∧Mid w s R j ts wr)
 case atStart=>exact⟨j,[],rfl,HM.out⟩
 case round =>
  clear HM hj hj0;obtain⟨j,ts,hgk,hM⟩:=hrel;have HGK:=qh hgk;have HM:=qh hM;have c1:=hM.st.c1;have HC1:=qh c1;have hle:=hM.le;have hfew:=hM.few;clear hgk
  by_cases hlt:j<s.size
  · have i1:(j:Int)<(s.size:Int):=om
    have htok:=zl4 (w.heap.size+1) (w.heap.size+1) s j ts wr hM.st om hlt hs _ rfl
    cases ht:Lx.token (s.data.toList.drop j)with
    | inl x =>
     rw[ht]at htok;have HTOK:=qh htok;have HB:=qh (zsg hM hlt ht);have ft:=hM.ft;clear htok ht hM;generalize hX:s.size-x.length=X at *;have HFT:=qh ft;have HBEL:=qh HM.out.bel;have hX8:X≤8000:=om;clear HM c1 ft;have hcc:∀w2,Blk w2 w.heap.size 29 [.int .i64 0,.int .i64 0]→w2.cell? ⟨w.heap.size,0,none⟩=some (.int .i64 0)∧w2.cell? ⟨w.heap.size,1,none⟩=some (.int .i64 0):=fun w2 hb=>⟨by rw[hb.cell];rfl,by rw[hb.cell];rfl⟩
     have HCC:=qh hcc;clear hcc;have c1:=HC1.out
     go_wp2_with (go_at_call 79;refine HTOK.out.mono ?_;rintro e w2 ⟨rfl,hB2⟩;have hf2:Blk w2 w.heap.size 29 [.int .i64 0,.int .i64 0]:=HFT.out.below hB2 om;obtain⟨d0,d1⟩:=HCC.out _ hf2;have f0:=hf2.frozen 0;have f1:=hf2.frozen 1)
     have hsc:=zj0 hs (HR.out.symm.trans HB.out);rw[hX]at hsc;have hB3:Below w.heap.size w w2:=HBEL.out.trans (hB2.mono om);have hb3:=(hf2.set_ 0 (.int .i64 9)).set_ 1 (.int .i64 X);refine bodyPost_ret (zav rfl _ w.heap.size 29 [.int .i64 9,.int .i64 X] rfl hb3 _ Tryz.underlying29 rfl hd48) rfl ?_;rw[hsc];exact⟨none,0,rfl,lr,World.ownsRow_nil _ _ _ _,(hB3.setCell lr _).setCell lr _⟩
    | inr p =>
     obtain⟨k,t,m,x⟩:=p;rw[ht]at htok;have HTOK:=qh htok;have hsuf:=zg3 ht;have hxl:s.size-x.length≤s.size:=om;have HT:=qh ht;have HSUF:=qh hsuf;clear htok ht hM hsuf;obtain⟨X,hX⟩:=ex9 (s.size-x.length);rw[←hX]at hxl;have HX:=qh hX;clear hX;have HSK:=qh (fun w2 (h:St w2 (w.heap.size+1) (w.heap.size+1) s X (ts++[⟨k,t,m,j⟩]))=>zrh (w.heap.size+1) (w.heap.size+1) s X _ w2 h hxl hs)
     go_wp2_with (first
      | (go_at_call 79;refine HTOK.out.mono ?_;rintro e w2 ⟨rfl,h2,hB2⟩;have H2:=qh (by rw[HX.out];exact h2:St w2 (w.heap.size+1) (w.heap.size+1) s X (ts++[⟨k,t,m,j⟩]));clear h2)
      | (go_at_call 78;refine(HSK.out _ H2.out).mono ?_;rintro e w3 ⟨rfl,j',hj0',hj',hd4,h4,ho4⟩))
     have h2:=H2.out;obtain⟨hlt2,hres⟩:=zp0 HM.out hlt HT.out X hxl (by rw[HX.out];exact HSUF.out) j' hj' hd4;have hB4:Below (w.heap.size+1) wr w3:=ho4.below hB2 lr (Nat.le_of_lt h2.lt)
     have hM':Mid w s R j' (ts++[⟨k,t,m,j⟩]) w3 :=
      ⟨h4,HM.out.ft.below hB4 om,HM.out.bel.trans (hB4.mono om),hj',by rw[la9];simp;omega,by rw[hd4,Lx.skip_skip],hres⟩
     go_roundg (s.size-j')
     case measure=>have:=HGK.out;omega
     case rel=>exact⟨j',_,rfl,hM'⟩
  · have hge:s.size≤j:=om
    have HE:=qh (zsf hM hge);have hje:j=s.size:=om;subst hje;have hadd:=zfr (w.heap.size+1) (w.heap.size+1) s s.size s.size ts 6 [] 0 wr hM.st om;have HADD:=qh hadd;clear hadd hM
    go_wp2_with (go_at_call 80;refine HADD.out.mono ?_;rintro e w2 ⟨rfl,h2,hB2⟩;obtain⟨⟨A3,c3,hb3,hown3⟩,hle3⟩:=id h2;have c2:=scn2 hb3;have hf2:Blk w2 w.heap.size 29 [.int .i64 0,.int .i64 0]:=HM.out.ft.below hB2 om;have d0:w2.cell? ⟨w.heap.size,0,none⟩=some (.int .i64 0):=by rw[hf2.cell];rfl
                 have d1:w2.cell? ⟨w.heap.size,1,none⟩=some (.int .i64 0):=by rw[hf2.cell];rfl
                 have f0:=hf2.frozen 0
                 have f1:=hf2.frozen 1)
    have hsc:=zjz hs (HR.out.symm.trans HE.out);refine bodyPost_ret (zav rfl _ w.heap.size 29 [.int .i64 0,.int .i64 0] rfl ((hf2.set_ 0 _).set_ 1 _) _ Tryz.underlying29 rfl hd48) rfl ?_;rw[hsc];have hlen:(ts++[(⟨6,[],0,s.size⟩:Lx.Tok)]).length=ts.length+1:=by simp
    have ho:Only w2 ((w2.setCell ⟨w.heap.size,0,none⟩ (.int .i64 0)).setCell ⟨w.heap.size,1,none⟩ (.int .i64 0)) w.heap.size:=((Only.refl w2 w.heap.size).setCell 0 _).setCell 1 _;have hown4:=zkg (hown3.kept ho.grown (.inr (zb0 hown3 hf2 (by decide)))) (Nat.le_succ w.heap.size);refine⟨A3,c3,by simp only[hlen];rfl,?_,hown4,?_⟩
    · obtain⟨A',c',e',hc'⟩:=zcc hown4
      injection e' with _ _ e'
      subst e';exact hc'
    · exact ho.below (HM.out.bel.trans (hB2.mono om)) lr (Nat.le_of_lt hf2.lt)
theorem zoy(s:ByteArray)(w:World):Calls Tryz.prog 45 #[.string s] w (ScanPost w (Lx.scan s.data.toList)):=by
 by_cases h:s.size≤8000
 · exact zk4 s w h
 · exact zox s w om
theorem RdS.of_own{w:World}{base n c sz:Nat}{e:TypeId}{A:Option Addr}{xs:List Value}(h:w.ownsRow base e sz (.slice A n c) n xs):RdS sz w A n xs:=by
 refine⟨h.1,fun hn=>?_⟩
 rcases h.2 with ⟨_,h0⟩|⟨g,cap,cur,hv,_,hg,hnc,_,hcs,htake⟩
 · omega
 · injection hv with hA
   subst hA;refine⟨g,0,rfl,(Array.getElem?_eq_some_iff.1 hg).1,fun j u hu=>?_⟩;rw[cell_of_row w g (0+j) cur e (0,0) hg,Nat.zero_add];rw[←htake,List.getElem?_take]at hu
   split at hu
   · simpa using hu
   · cases hu
theorem RdS.of_blk{w:World}{g n sz:Nat}{t:TypeId}{cs:List Value}(h:Blk w g t cs)(hn:cs.length=n*sz):RdS sz w (some ⟨g,0,none⟩) n cs :=
 ⟨hn,fun _=>⟨g,0,rfl,h.lt,fun j u hu=>by rw[h.cell,Nat.zero_add];exact hu⟩⟩
theorem zmg(s:ByteArray)(w:World){p q n:Nat}{ts:List Lx.Tok}(h:Lx.scan s.data.toList=((p,q),ts))(hn:ts.length=n):
 Calls Tryz.prog 45 #[.string s] w fun e w'=>∃A c,e=.returned (.tuple #[.slice A n c,.agg #[.int .i64 p,.int .i64 q]])∧n≤c∧w'.ownsRow w.heap.size 72 4 (.slice A n c) n (toksCells ts)∧Below w.heap.size w w':=by
 subst hn;have:=zoy s w;rw[h]at this;exact this
theorem zjh{l:List Lx.Tok}{i:Nat}{t:Lx.Tok}(h:l[i]? = some t):(toksCells l)[i*4+0]? = some (.int .i64 t.kind)∧(toksCells l)[i*4+1]? = some (.string (bytesOf t.text))∧(toksCells l)[i*4+2]? = some (.int .i64 t.num)∧(toksCells l)[i*4+3]? = some (.int .i64 t.at_):=by
 induction l generalizing i with
 | nil=>simp at h
 | cons x l ih =>
  have hc:toksCells (x :: l)=tokCells x++toksCells l:=by simp[toksCells]
  cases i with
  | zero =>
   simp at h
   subst h;rw[hc];exact⟨rfl,rfl,rfl,rfl⟩
  | succ i =>
   have:=ih (i:=i) (by simpa using h);rw[hc];have hl:(tokCells x).length=4:=rfl
   have e:∀k,(tokCells x++toksCells l)[(i+1)*4+k]? = (toksCells l)[i*4+k]?:=fun k=>by
    rw[ar9 (by rw[hl];omega),hl]
    congr 1
    omega
   rw[e,e,e,e];exact this
theorem RdS.keep{sz:Nat}{w w':World}{A:Option Addr}{n:Nat}{xs:List Value}(h:RdS sz w A n xs)(hs:w.heap.size≤w'.heap.size)(hk:∀p:Addr,p.block<w.heap.size→w'.cell? p=w.cell? p):RdS sz w' A n xs :=
 ⟨h.1,fun hn=>by
  obtain⟨b,off,e,hbl,hc⟩:=h.2 hn
  exact⟨b,off,e,Nat.lt_of_lt_of_le hbl hs,fun j u hu=>(hk ⟨b,off+j,none⟩ hbl).trans (hc j u hu)⟩⟩
theorem RdS.below{sz:Nat}{w w':World}{A:Option Addr}{n:Nat}{xs:List Value}(h:RdS sz w A n xs)(hb:Below w.heap.size w w'):RdS sz w' A n xs:=h.keep hb.size fun _ hp=>hb.cell hp
theorem RdS.alloc{sz:Nat}{w:World}{A:Option Addr}{n:Nat}{xs:List Value}(h:RdS sz w A n xs)(o:Obj):RdS sz (w.alloc o) A n xs:=h.keep sy fun p hp=>World.cell?_alloc_lt w o p hp
theorem Blk.two{w:World}{g:Nat}{t:TypeId}{a b:Value}(h:Blk w g t [a,b]):w.cell? ⟨g,0,none⟩=some a∧w.cell? ⟨g,1,none⟩=some b∧w.frozen? ⟨g,0,none⟩=false∧w.frozen? ⟨g,1,none⟩=false:=⟨h.cell 0,h.cell 1,h.frozen 0,h.frozen 1⟩
theorem Blk.four{w:World}{g:Nat}{t:TypeId}{a b c d:Value}(h:Blk w g t [a,b,c,d]):w.cell? ⟨g,0,none⟩=some a∧w.cell? ⟨g,1,none⟩=some b∧w.cell? ⟨g,2,none⟩=some c∧w.cell? ⟨g,3,none⟩=some d ∧
 w.frozen? ⟨g,0,none⟩=false∧w.frozen? ⟨g,1,none⟩=false∧w.frozen? ⟨g,2,none⟩=false∧w.frozen? ⟨g,3,none⟩=false:=⟨h.cell 0,h.cell 1,h.cell 2,h.cell 3,h.frozen 0,h.frozen 1,h.frozen 2,h.frozen 3⟩
theorem res_c{P:Program}{w:World}{fn:Func}{p:Tmp}{ty:TypeId}(h:fn.results=#[.cell p ty])(tmps:Array Value)(g:Nat)(t:TypeId)(cs:List Value)(hp:tmps.getD p undef=.pointer (some ⟨g,0,none⟩))
 (hB:Blk w g t cs) (d:TypeDesc) (hu:P.underlying ty=some d) (hd:d.isRow=true) (hi:(P.info? ty).map (·.size)=some cs.length):
 (results fn tmps).run P w=.ok (.agg cs.toArray) w:=zpb h tmps g t cs hp hB d hu hd hi
theorem hdTok':(Tryz.prog.info? 72).map (·.size)=some 4:=by kernel_rfl
def endTok:Lx.Tok:=⟨6,[],0,0⟩
theorem zr8(g:Nat)(A:Option Addr)(n c i:Nat)(ts:List Lx.Tok)(t:Lx.Tok)(w:World)(hb:Blk w g 100 [.slice A n c,.int .i64 i])(hr:RdS 4 w A n (toksCells ts))(hn:ts.length=n)(hn8:n≤100000)(ht:ts[i]? = some t):
 Calls Tryz.prog 53 #[.pointer (some ⟨g,0,none⟩)] w fun e w'=>e=.returned (.agg (tokCells t).toArray)∧Below w.heap.size w w':=by
 have hi:i<n:=by rw[←hn];exact(gi9.1 ht).1
 obtain⟨b,off,rfl,hbl,hcells⟩:=hr.2 om;obtain⟨x0,x1,x2,x3⟩:=zjh ht;have d0:=hcells _ _ x0;have d1:=hcells _ _ x1;have d2:=hcells _ _ x2;have d3:=hcells _ _ x3;rw[Nat.add_zero]at d0;rw[←Nat.add_assoc]at d1 d2 d3;have c0:w.cell? ⟨g,0,none⟩=some (.slice (some ⟨b,off,none⟩) n c):=hb.cell 0;have c1:w.cell? ⟨g,1,none⟩=some (.int .i64 i):=hb.cell 1;have hgl:=hb.lt;have i0:(0:Int)≤(i:Int):=om;have i1:(i:Int)<(n:Int):=om;clear x0 x1 x2 x3 hcells hr hb ht hn
 unfold tokCells
 go_enter Tryz.func53, Tryz.ntmps53
 go_wp2_with fail
 go_quiet (fail)
 have hz:Blk ((w.alloc (.cells #[.int .i64 0,.string { data:=#[] },.int .i64 0,.int .i64 0] 72)).drewN nq) w.heap.size 72 [.int .i64 0,.string { data:=#[] },.int .i64 0,.int .i64 0]:=(Blk.new w _ _).drewN nq;have hB1:Below w.heap.size w ((w.alloc (.cells #[.int .i64 0,.string { data:=#[] },.int .i64 0,.int .i64 0] 72)).drewN nq):=below_drewN ((Below.refl _ _).alloc lr _) _;generalize ((w.alloc (.cells #[.int .i64 0,.string { data:=#[] },.int .i64 0,.int .i64 0] 72)).drewN nq)=w1 at *;have c0:=(hB1.cell (p:=⟨g,0,none⟩) hgl).trans c0;have c1:=(hB1.cell (p:=⟨g,1,none⟩) hgl).trans c1;have d0:=(hB1.cell (p:=⟨b,off+i*4,none⟩) hbl).trans d0;have d1:=(hB1.cell (p:=⟨b,off+i*4+1,none⟩) hbl).trans d1;have d2:=(hB1.cell (p:=⟨b,off+i*4+2,none⟩) hbl).trans d2;have d3:=(hB1.cell (p:=⟨b,off+i*4+3,none⟩) hbl).trans d3;have z0:w1.cell? ⟨w.heap.size,0,none⟩=some (.int .i64 0):=hz.cell 0;have z1:w1.cell? ⟨w.heap.size,1,none⟩=some (.string { data:=#[] }):=hz.cell 1;have z2:w1.cell? ⟨w.heap.size,2,none⟩=some (.int .i64 0):=hz.cell 2;have z3:w1.cell? ⟨w.heap.size,3,none⟩=some (.int .i64 0):=hz.cell 3;have f0:=hz.frozen 0;have f1:=hz.frozen 1;have f2:=hz.frozen 2;have f3:=hz.frozen 3;have HZ:=qh hz;clear hz
 go_wp2_with fail
 go_region
 go_wp2_with fail
 refine bodyPost_ret (res_c rfl _ w.heap.size 72 (tokCells t) rfl (by exact(((HZ.out.drew.set_ 0 _).set_ 1 _).set_ 2 _).set_ 3 _) _ Tryz.underlying72 rfl hdTok') rfl ⟨rfl,?_⟩;exact(((hB1.drew.setCell lr _).setCell lr _).setCell lr _).setCell lr _
theorem zpw(g:Nat)(A:Option Addr)(n c i:Nat)(w:World)(hb:Blk w g 100 [.slice A n c,.int .i64 i])(hi:n≤i):
 Calls Tryz.prog 53 #[.pointer (some ⟨g,0,none⟩)] w fun e w'=>e=.returned (.agg (tokCells endTok).toArray)∧Below w.heap.size w w':=by
 have c0:w.cell? ⟨g,0,none⟩=some (.slice A n c):=hb.cell 0;have c1:w.cell? ⟨g,1,none⟩=some (.int .i64 i):=hb.cell 1;have hgl:=hb.lt;have i1:decide ((i:Int)<(n:Int))=false:=by simp;omega
 clear hb
 go_enter Tryz.func53, Tryz.ntmps53
 go_wp2_with fail
 go_quiet (fail)
 have hz:Blk ((w.alloc (.cells #[.int .i64 0,.string { data:=#[] },.int .i64 0,.int .i64 0] 72)).drewN nq) w.heap.size 72 [.int .i64 0,.string { data:=#[] },.int .i64 0,.int .i64 0]:=(Blk.new w _ _).drewN nq;have hB1:Below w.heap.size w ((w.alloc (.cells #[.int .i64 0,.string { data:=#[] },.int .i64 0,.int .i64 0] 72)).drewN nq):=below_drewN ((Below.refl _ _).alloc lr _) _;generalize ((w.alloc (.cells #[.int .i64 0,.string { data:=#[] },.int .i64 0,.int .i64 0] 72)).drewN nq)=w1 at *;have z0:w1.cell? ⟨w.heap.size,0,none⟩=some (.int .i64 0):=hz.cell 0;have z1:w1.cell? ⟨w.heap.size,1,none⟩=some (.string { data:=#[] }):=hz.cell 1;have z2:w1.cell? ⟨w.heap.size,2,none⟩=some (.int .i64 0):=hz.cell 2;have z3:w1.cell? ⟨w.heap.size,3,none⟩=some (.int .i64 0):=hz.cell 3;have f0:=hz.frozen 0;have f1:=hz.frozen 1;have f2:=hz.frozen 2;have f3:=hz.frozen 3;have HZ:=qh hz;clear hz
 go_wp2_with fail
 refine bodyPost_ret (res_c rfl _ w.heap.size 72 (tokCells endTok) rfl (by exact(((HZ.out.set_ 0 _).set_ 1 _).set_ 2 _).set_ 3 _) _ Tryz.underlying72 rfl hdTok') rfl ⟨rfl,?_⟩;exact(((hB1.setCell lr _).setCell lr _).setCell lr _).setCell lr _
def tokAt(ts:List Lx.Tok)(i:Nat):Lx.Tok:=(ts[i]?).getD endTok
theorem zd5(g:Nat)(A:Option Addr)(n c i:Nat)(ts:List Lx.Tok)(w:World)(hb:Blk w g 100 [.slice A n c,.int .i64 i])(hr:RdS 4 w A n (toksCells ts))(hn:ts.length=n)(hn8:n≤100000):
 Calls Tryz.prog 53 #[.pointer (some ⟨g,0,none⟩)] w fun e w'=>e=.returned (.agg (tokCells (tokAt ts i)).toArray)∧Below w.heap.size w w':=by
 unfold tokAt
 by_cases h:i<n
 · have ht:ts[i]? = some ts[i]:=ge9 om
   rw[ht];exact zr8 g A n c i ts _ w hb hr hn hn8 ht
 · rw[List.getElem?_eq_none om]
   exact zpw g A n c i w hb om
theorem zki(g:Nat)(A:Option Addr)(n c i:Nat)(ts:List Lx.Tok)(t:Lx.Tok)(w:World)(hb:Blk w g 100 [.slice A n c,.int .i64 i])(hr:RdS 4 w A n (toksCells ts))(hn:ts.length=n)(hn8:n≤100000)(hi:i≤100000)(ht:tokAt ts i=t):
 Calls Tryz.prog 47 #[.pointer (some ⟨g,0,none⟩)] w fun e w'=>e=.returned (.agg (tokCells t).toArray)∧Blk w' g 100 [.slice A n c,.int .i64 ((if t.kind=6 then i else i+1:Nat):Int)]∧Wrote g w w':=by
 have hgl:=hb.lt;have HP:=qh (fun W (h1:Blk W g 100 [.slice A n c,.int .i64 i]) (h2:RdS 4 W A n (toksCells ts))=>ht ▸ zd5 g A n c i ts W h1 h2 hn hn8);have HR:=qh hr;have HB:=qh hb;clear hr hb ht hn;have HZ:Hid (∀W,Below (w.alloc (.cells #[.int .i64 0,.string { data:=#[] },.int .i64 0,.int .i64 0] 72)).heap.size (w.alloc (.cells #[.int .i64 0,.string { data:=#[] },.int .i64 0,.int .i64 0] 72)) W→Blk W w.heap.size 72 [.int .i64 0,.string { data:=#[] },.int .i64 0,.int .i64 0]):=fun W hW=>(Blk.new w _ _).below hW sy
 have HG:Hid (∀W,Below (w.alloc (.cells #[.int .i64 0,.string { data:=#[] },.int .i64 0,.int .i64 0] 72)).heap.size (w.alloc (.cells #[.int .i64 0,.string { data:=#[] },.int .i64 0,.int .i64 0] 72)) W→Blk W g 100 [.slice A n c,.int .i64 i]):=fun W hW=>(HB.out.alloc _).below hW (by simp;omega)
 by_cases hk:t.kind=6
 · have e1:((t.kind:Int) != 6)=false:=by rw[hk];rfl
   rw[if_pos hk];clear hk
   unfold tokCells at *
   go_enter Tryz.func47, Tryz.ntmps47
   go_wp2_with (go_at_call 53;refine(HP.out _ (HB.out.alloc _) (HR.out.alloc _)).mono ?_;rintro e w2 ⟨rfl,hB2⟩;have hz2:=HZ.out w2 hB2;obtain⟨z0,z1,z2,z3,f0,f1,f2,f3⟩:=hz2.four;have hzl:=hz2.lt;have hg2:=HG.out w2 hB2;have hgl2:=hg2.lt;have hne:¬g=w.heap.size:=Nat.ne_of_lt hgl;obtain⟨c0,c1,g0,g1⟩:=hg2.two)
   refine bodyPost_ret (res_c rfl _ w.heap.size 72 (tokCells t) rfl (by exact((((hz2.set_ 0 _).set_ 1 _).set_ 2 _).set_ 3 _).alloc _) _ Tryz.underlying72 rfl hdTok') rfl ⟨rfl,?_,?_⟩
   · exact((((hg2.far hne _).far hne _).far hne _).far hne _).alloc _
   · have h0:Wrote g w w2:=Wrote.of_below (((Below.refl _ _).alloc lr _).trans (hB2.mono sy))
     exact((((h0.setNew lr _).setNew lr _).setNew lr _).setNew lr _).alloc _
 · have e1:((t.kind:Int) != 6)=true:=by rw[bne_iff_ne];omega
   rw[if_neg hk];clear hk
   unfold tokCells at *
   go_enter Tryz.func47, Tryz.ntmps47
   go_wp2_with (go_at_call 53;refine(HP.out _ (HB.out.alloc _) (HR.out.alloc _)).mono ?_;rintro e w2 ⟨rfl,hB2⟩;have hz2:=HZ.out w2 hB2;obtain⟨z0,z1,z2,z3,f0,f1,f2,f3⟩:=hz2.four;have hzl:=hz2.lt;have hg2:=HG.out w2 hB2;have hgl2:=hg2.lt;have hne:¬g=w.heap.size:=Nat.ne_of_lt hgl;obtain⟨c0,c1,g0,g1⟩:=hg2.two)
   refine bodyPost_ret (res_c rfl _ w.heap.size 72 (tokCells t) rfl (by exact(((((hz2.far (p:=⟨g,1,none⟩) (fun e=>hne e.symm) _).set_ 0 _).set_ 1 _).set_ 2 _).set_ 3 _).alloc _) _ Tryz.underlying72 rfl hdTok') rfl ⟨rfl,?_,?_⟩
   · exact(((((hg2.set_ 1 _).far hne _).far hne _).far hne _).far hne _).alloc _
   · have h0:Wrote g w w2:=Wrote.of_below (((Below.refl _ _).alloc lr _).trans (hB2.mono sy))
     exact(((((h0.setCell 1 _).setNew lr _).setNew lr _).setNew lr _).setNew lr _).alloc _
def isOf(t:Lx.Tok)(l:List ByteArray):Bool:=(decide (t.kind=2)|| decide (t.kind=5)) && bmem (bytesOf t.text) l
theorem zn1(g:Nat)(A:Option Addr)(n c i:Nat)(ts:List Lx.Tok)(t:Lx.Tok)(A1:Option Addr)(n1 c1:Nat)(l:List ByteArray)(w:World)(hb:Blk w g 100 [.slice A n c,.int .i64 i])(hr:RdS 4 w A n (toksCells ts))(hn:ts.length=n)(hn8:n≤100000)(ht:tokAt ts i=t)
 (hl:Rd w A1 n1 (strs l)) (hn1:n1≤140737488355328):
 Calls Tryz.prog 46 #[.pointer (some ⟨g,0,none⟩),.slice A1 n1 c1] w fun e w'=>e=.returned (.bool (isOf t l))∧Below w.heap.size w w':=by
 have HP:=qh (ht ▸ zd5 g A n c i ts w hb hr hn hn8);have HC:=qh (fun W (h:Rd W A1 n1 (strs l))=>zie A1 n1 c1 l (bytesOf t.text) W h hn1);have HL:=qh hl;clear hr hb ht hn hl
 have hcase:(((t.kind:Int) == 2)=true∧Hid (isOf t l=bmem (bytesOf t.text) l))∨(((t.kind:Int) == 2)=false∧((t.kind:Int) == 5)=true∧Hid (isOf t l=bmem (bytesOf t.text) l))∨(((t.kind:Int) == 2)=false∧((t.kind:Int) == 5)=false∧Hid (isOf t l=false)):=by
  unfold isOf
  by_cases h2:t.kind=2
  · exact .inl ⟨by rw[h2];rfl,by show _=_;simp[h2]⟩
  · have e2:((t.kind:Int) == 2)=false:=by simpa using fun h=>h2 om
    by_cases h5:t.kind=5
    · exact .inr (.inl ⟨e2,by rw[h5];rfl,by show _=_;simp[h5]⟩)
    · exact .inr (.inr ⟨e2,by simpa using fun h=>h5 om,by show _=_;simp[h2,h5]⟩)
 generalize isOf t l=R at *;generalize bmem (bytesOf t.text) l=R1 at *
 unfold tokCells at *
 rcases hcase with ⟨a1,HR⟩|⟨a1,a2,HR⟩|⟨a1,a2,HR⟩
 all_goals
   go_enter Tryz.func46, Tryz.ntmps46
   go_wp2_with (first
    | (go_at_call 53;refine HP.out.mono ?_;rintro e w2 ⟨rfl,hB2⟩)
    | (go_at_call 81;refine(HC.out _ ((HL.out.below hB2).alloc _)).mono ?_;rintro e w3 ⟨rfl,rfl⟩))
   go_ret;exact⟨by rw[HR.out];rfl,hB2.alloc hB2.size _⟩
end Go.Proofs.YtafjkbbiaopemaaGreatDoor
