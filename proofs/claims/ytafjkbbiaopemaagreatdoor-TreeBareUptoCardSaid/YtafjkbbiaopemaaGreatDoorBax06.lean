/- Part of the proof. -/
import Derived.Test.YtafjkbbiaopemaaGreatDoorBax04
set_option linter.all false
set_option maxRecDepth 100000
set_option maxHeartbeats 0
namespace Go.Proofs.YtafjkbbiaopemaaGreatDoor.Lx
open Go.RowKit
theorem skip_len(c:Bool)(r:List UInt8):(skip c r).length≤r.length:=by
 induction r generalizing c with
 | nil=>cases c <;> simp[skip]
 | cons x r ih =>
  unfold skip
  split
  · split
    · exact Nat.le_trans (ih _) (by simp)
    · exact Nat.le_trans (ih _) (by simp)
  · split
    · exact Nat.le_trans (ih _) (by simp)
    · split
      · exact Nat.le_trans (ih _) (by simp)
      · exact Nat.le_refl _
theorem skip_f(x:UInt8)(r:List UInt8):skip false (x :: r)=if blank x=true then skip false r else if (x == 35)=true then skip true r else x :: r:=by simp[skip]
theorem zny(x:UInt8)(r:List UInt8):skip true (x :: r)=if (x == 10)=true then skip false r else skip true r:=by simp[skip]
theorem skip_skip(c:Bool)(r:List UInt8):skip false (skip c r)=skip c r:=by
 induction r generalizing c with
 | nil=>cases c <;> simp[skip]
 | cons x r ih =>
  cases c
  · by_cases hb:blank x=true
    · rw[skip_f,if_pos hb]
      exact ih _
    · by_cases h:(x == 35)=true
      · rw[skip_f,if_neg hb,if_pos h]
        exact ih _
      · rw[skip_f,if_neg hb,if_neg h,skip_f,if_neg hb,if_neg h]
  · by_cases h:(x == 10)=true
    · rw[zny,if_pos h]
      exact ih _
    · rw[zny,if_neg h]
      exact ih _
theorem zlt:∀(f:Nat) (r acc:List UInt8) (b x:List UInt8),text f r acc=.inr (b,x)→x.length<r.length:=by
 intro f
 induction f with
 | zero=>intro r acc b x h;cases h
 | succ f ih =>
  intro r acc b x h
  unfold text at h
  cases r with
  | nil=>cases h
  | cons c r =>
   simp only[]at h
   split at h
   · injection h with h;injection h with _ h;subst h;simp
   · split at h
     · split at h
       · cases h
       · have:=ih _ _ _ _ h
         simp at this ⊢
         omega
     · split at h
       · cases h
       · have:=ih _ _ _ _ h
         simp
         omega
theorem token_len{c:UInt8}{r:List UInt8}{k:Nat}{t:List UInt8}{m:Nat}{x:List UInt8}(h:token (c :: r)=.inr (k,t,m,x)):x.length<(c :: r).length:=by
 unfold token at h
 simp only[]at h
 split at h
 · rename_i hl
   split at h
   · cases h
   · injection h with h;injection h with _ h;injection h with _ h;injection h with _ h
     subst h;have:0<((c :: r).takeWhile alnum).length:=by simp[alnum,hl]
     rw[List.length_drop]
     simp at this ⊢
     omega
 · split at h
   · rename_i hl hd
     split at h
     · cases h
     · split at h
       · cases h
       · injection h with h;injection h with _ h;injection h with _ h;injection h with _ h
         subst h;have:0<((c :: r).takeWhile digit).length:=by simp[hd]
         rw[List.length_drop]
         simp at this ⊢
         omega
   · split at h
     · split at h
       · cases h
       · rename_i b y hy
         injection h with h;injection h with _ h;injection h with _ h;injection h with _ h
         subst h;have:=zlt _ _ _ _ _ hy
         simp
         omega
     · split at h
       · injection h with h;injection h with _ h;injection h with _ h;injection h with _ h
         subst h
         simp
       · cases h
theorem scan_fuel(n:Nat):∀(f:Nat) (r:List UInt8) (acc:List Tok),r.length<f→∀g,r.length<g→scanF n f r acc=scanF n g r acc:=by
 intro f
 induction f with
 | zero=>intro r acc h;omega
 | succ f ih =>
  intro r acc h g hg;obtain⟨g,rfl⟩:∃g',g=g'+1:=⟨g-1,by omega⟩
  unfold scanF
  have hl:=skip_len false r
  cases hs:skip false r with
  | nil=>rfl
  | cons c r1 =>
   rw[hs]at hl;simp only[]
   cases ht:token (c :: r1)with
   | inl x=>rfl
   | inr p =>
    obtain⟨k,t,m,x⟩:=p;have:=token_len ht;exact ih _ _ (by omega) g (by omega)
theorem scan_skip(n f:Nat)(r:List UInt8)(acc:List Tok):scanF n (f+1) r acc=scanF n (f+1) (skip false r) acc:=by
 unfold scanF
 rw[skip_skip]
theorem scan_end(n f:Nat)(acc:List Tok):scanF n (f+1) [] acc=.inr (acc++[⟨6,[],0,n⟩]):=by
 unfold scanF
 rfl
theorem scan_step(n f:Nat)(c:UInt8)(r:List UInt8)(acc:List Tok)(hs:skip false (c :: r)=c :: r):
 scanF n (f+1) (c :: r) acc=match token (c :: r)with | .inl x=>.inl x | .inr (k,t,m,x)=>scanF n f x (acc++[⟨k,t,m,n-(c :: r).length⟩]):=by
 conv=>lhs;unfold scanF
 rw[hs] <;> rfl
theorem zg0:∀(f:Nat) (r acc:List UInt8) (b x:List UInt8),text f r acc=.inr (b,x)→∃q,x=r.drop q:=by
 intro f
 induction f with
 | zero=>intro r acc b x h;cases h
 | succ f ih =>
  intro r acc b x h
  unfold text at h
  cases r with
  | nil=>cases h
  | cons c r =>
   simp only[]at h
   split at h
   · injection h with h;injection h with _ h;exact⟨1,by rw[←h];rfl⟩
   · split at h
     · split at h
       · cases h
       · obtain⟨q,hq⟩:=ih _ _ _ _ h
         exact⟨_,by rw[hq,List.drop_drop]⟩
     · split at h
       · cases h
       · obtain⟨q,hq⟩:=ih _ _ _ _ h
         exact⟨q+1,by rw[hq];rfl⟩
theorem token_suffix{r:List UInt8}{k:Nat}{t:List UInt8}{m:Nat}{x:List UInt8}(h:token r=.inr (k,t,m,x)):∃q,x=r.drop q:=by
 cases r with
 | nil=>cases h
 | cons c r =>
  unfold token at h
  simp only[]at h
  split at h
  · split at h
    · cases h
    · injection h with h;injection h with _ h;injection h with _ h;injection h with _ h
      exact⟨_,h.symm⟩
  · split at h
    · split at h
      · cases h
      · split at h
        · cases h
        · injection h with h;injection h with _ h;injection h with _ h;injection h with _ h
          exact⟨_,h.symm⟩
    · split at h
      · split at h
        · cases h
        · rename_i b y hy
          injection h with h;injection h with _ h;injection h with _ h;injection h with _ h
          obtain⟨q,hq⟩:=zg0 _ _ _ _ _ hy;exact⟨q+1,by rw[←h,hq];rfl⟩
      · split at h
        · injection h with h;injection h with _ h;injection h with _ h;injection h with _ h
          exact⟨1,by rw[←h];rfl⟩
        · cases h
end Go.Proofs.YtafjkbbiaopemaaGreatDoor.Lx
namespace Go.Proofs.YtafjkbbiaopemaaGreatDoor
open Go.RowKit
theorem zbm{P:Program}{w:World}{fn:Func}{p u:Tmp}{ty:TypeId}(h:fn.results=#[.tmp u,.cell p ty])(tmps:Array Value)(g:Nat)(t:TypeId)(cs:List Value)(hp:tmps.getD p undef=.pointer (some ⟨g,0,none⟩))
 (hB:Blk w g t cs) (d:TypeDesc) (hu:P.underlying ty=some d) (hd:d.isRow=true) (hi:(P.info? ty).map (·.size)=some cs.length):
 (results fn tmps).run P w=.ok (.tuple #[tmps.getD u undef,.agg cs.toArray]) w:=by
 have hp':tmps[p]?.getD undef=.pointer (some ⟨g,0,none⟩):=by rw[←hp];simp
 simp[results,h,hp',asAddr,run_loadVar_mid w g 0 ty cs d hB.range hu hd hi]
def faultV(p:Nat × Nat):List Value:=[.int .i64 p.1,.int .i64 p.2]
def ScanPost(w:World)(r:(Nat × Nat) × List Lx.Tok)(e:Ending)(w':World):Prop :=
 ∃A c,e=.returned (.tuple #[.slice A r.2.length c,.agg (faultV r.1).toArray])∧r.2.length≤c∧w'.ownsRow w.heap.size 72 4 (.slice A r.2.length c) r.2.length (toksCells r.2)∧Below w.heap.size w w'
theorem hd48:(Tryz.prog.info? 29).map (·.size)=some 2:=by kernel_rfl
theorem zma(s:ByteArray)(w:World)(hs:8000<s.size):Calls Tryz.prog 45 #[.string s] w (ScanPost w (Lx.scan s.data.toList)):=by
 have hsc:Lx.scan s.data.toList=((2,0),[]):=by unfold Lx.scan;rw[if_pos (by simpa using hs)]
 rw[hsc];have e1:decide ((8000:Int)<(s.size:Int))=true:=by simp;omega
 go_enter Tryz.func45, Tryz.ntmps45
 go_wp2_with fail
 exact bodyPost_ret (zbm rfl _ w.heap.size 29 [.int .i64 2,.int .i64 0] rfl (Blk.new w _ _) _ Tryz.underlying29 rfl hd48) rfl
   ⟨none,0,rfl,lr,World.ownsRow_nil _ _ _ _,(Below.refl _ _).alloc lr _⟩
structure Mid(w:World)(s:ByteArray)(R:Sum (List UInt8) (List Lx.Tok))(j:Nat)(ts:List Lx.Tok)(wr:World):Prop where
 st:St wr (w.heap.size+1) (w.heap.size+1) s j ts
 ft:Blk wr w.heap.size 29 [.int .i64 0,.int .i64 0]
 bel:Below w.heap.size w wr
 le:j≤s.size
 few:ts.length≤j
 sk:Lx.skip false (s.data.toList.drop j)=s.data.toList.drop j
 res:R=Lx.scanF s.size (s.size-j+1) (s.data.toList.drop j) ts
theorem zpk{w wr:World}{s:ByteArray}{R:Sum (List UInt8) (List Lx.Tok)}{j:Nat}{ts:List Lx.Tok}(h:Mid w s R j ts wr)(hj:j<s.size){x:List UInt8}(ht:Lx.token (s.data.toList.drop j)=.inl x):R=.inl x:=by
 have hx:=zb7 s j hj;have hc:=zai hx;have h1:=h.res;have hs:=h.sk;rw[hc]at h1 hs ht;rw[Lx.scan_step _ _ _ _ _ hs,ht]at h1;exact h1
theorem zpj{w wr:World}{s:ByteArray}{R:Sum (List UInt8) (List Lx.Tok)}{j:Nat}{ts:List Lx.Tok}(h:Mid w s R j ts wr)(hj:s.size≤j):R=.inr (ts++[⟨6,[],0,s.size⟩]):=by
 have h1:=h.res;rw[List.drop_eq_nil_of_le (by simpa using hj),Lx.scan_end]at h1;exact h1
theorem znd{w wr:World}{s:ByteArray}{R:Sum (List UInt8) (List Lx.Tok)}{j:Nat}{ts:List Lx.Tok}(h:Mid w s R j ts wr)(hj:j<s.size){k m:Nat}{t x:List UInt8}(ht:Lx.token (s.data.toList.drop j)=.inr (k,t,m,x))
 (i':Nat) (hi:i'≤s.size) (hx:x=s.data.toList.drop i') (j':Nat) (hj':j'≤s.size) (hd:s.data.toList.drop j'=Lx.skip false (s.data.toList.drop i')):
 j<i'∧R=Lx.scanF s.size (s.size-j'+1) (s.data.toList.drop j') (ts++[⟨k,t,m,j⟩]):=by
 have hxx:=zb7 s j hj;have hc:=zai hxx;have h1:=h.res;have hs:=h.sk
 have hlen:x.length<(s.data.toList.drop j).length:=by
  rw[hc]at ht ⊢;exact Lx.token_len ht
 have hlj:(s.data.toList.drop j).length=s.size-j:=by simp
 have hli:x.length=s.size-i':=by rw[hx];simp
 have hlt:j<i':=om;refine⟨hlt,?_⟩;rw[hc]at h1 hs ht;rw[Lx.scan_step _ _ _ _ _ hs,ht]at h1;simp only[]at h1;rw[←hc,hlj,show s.size-(s.size-j)=j from by omega]at h1;rw[h1,hx];have hf:(s.data.toList.drop i').length<s.size-j:=by rw[←hx];omega
 obtain⟨f,hfe⟩:∃f,s.size-j=f+1:=⟨s.size-j-1,by omega⟩;rw[hfe,Lx.scan_skip,←hd];have hl2:(s.data.toList.drop j').length≤(s.data.toList.drop i').length:=by rw[hd];exact Lx.skip_len _ _
 exact Lx.scan_fuel _ _ _ _ om _ sy
theorem zl9{s:ByteArray}(hs:s.size≤8000){x:List UInt8}(h:Lx.scanF s.size (s.size+1) s.data.toList []=.inl x):Lx.scan s.data.toList=((9,s.size-x.length),[]):=by
 have e:s.data.toList.length=s.size:=by simp
 unfold Lx.scan
 rw[if_neg om,e,h]
theorem zl8{s:ByteArray}(hs:s.size≤8000){ts:List Lx.Tok}(h:Lx.scanF s.size (s.size+1) s.data.toList []=.inr ts):Lx.scan s.data.toList=((0,0),ts):=by
 have e:s.data.toList.length=s.size:=by simp
 unfold Lx.scan
 rw[if_neg om,e,h]
theorem St.of_skip{w w':World}{B g:Nat}{s:ByteArray}{i j:Nat}{ts:List Lx.Tok}{lv:Value}(h:St w B g s i ts)(hl:w.cell? ⟨g,2,none⟩=some lv)(hb:Blk w' g 125 (scn s j lv))(ho:Only w w' g):St w' B g s j ts:=by
 obtain⟨⟨A,c,h1,h2⟩,hle⟩:=h;rw[scn2 h1]at hl
 injection hl with hl
 subst hl;exact⟨⟨A,c,hb,h2.kept ho.grown (.inr (zbv h2 h1 (by decide)))⟩,hle⟩
theorem zjq{s:ByteArray}{j:Nat}{k m:Nat}{t x:List UInt8}(ht:Lx.token (s.data.toList.drop j)=.inr (k,t,m,x)):x=s.data.toList.drop (s.size-x.length):=by
 obtain⟨q,hq⟩:=Lx.token_suffix ht;rw[List.drop_drop]at hq;have hl:x.length=s.size-(j+q):=by rw[hq];simp
 rcases Nat.lt_or_ge (j+q) s.size with h|h
 · rw[show s.size-x.length=j+q from by omega]
   exact hq
 · rw[List.drop_eq_nil_of_le (by simpa using h)]at hq
   subst hq;rw[List.drop_eq_nil_of_le sy]
theorem zor(B g:Nat)(s:ByteArray)(i:Nat)(ts:List Lx.Tok)(w:World)(h:St w B g s i ts)(hi:i≤s.size)(hs:s.size≤8000):
 Calls Tryz.prog 78 #[.pointer (some ⟨g,0,none⟩)] w fun e w' =>
  e=.returned (.tuple #[])∧∃j,i≤j∧j≤s.size∧s.data.toList.drop j=Lx.skip false (s.data.toList.drop i)∧St w' B g s j ts∧Only w w' g:=by
 obtain⟨⟨A3,c3,hb3,hown3⟩,hle3⟩:=id h;refine(zhv g s i _ _ hb3 hi hs).mono ?_;rintro e w3 ⟨rfl,j',hj0',hj',hb4,ho4,hd4⟩;exact⟨rfl,j',hj0',hj',hd4,h.of_skip (scn2 hb3) hb4 ho4,ho4⟩
theorem ziq(s:ByteArray)(w:World)(hs:s.size≤8000):Calls Tryz.prog 45 #[.string s] w (ScanPost w (Lx.scan s.data.toList)):=by
 obtain⟨R,hR⟩:=ex9 (Lx.scanF s.size (s.size+1) s.data.toList []);have HR:=qh hR;clear hR;have e1:decide ((8000:Int)<(s.size:Int))=false:=by simp;omega
 have hb0:Blk ((w.alloc (.cells #[.int .i64 0,.int .i64 0] 29)).alloc (.cells #[.string s,.int .i64 0,.slice none 0 0] 125)) (w.heap.size+1) 125 (scn s 0 (.slice none 0 0)):=Blk.new' sy rfl
 go_enter Tryz.func45, Tryz.ntmps45
 go_wp2_with (go_at_call 78;refine(zhv (w.heap.size+1) s 0 (.slice none 0 0) _ hb0 (Nat.zero_le _) hs).mono ?_;rintro e w1 ⟨rfl,j,hj0,hj,hb1,ho1,hd1⟩)
 rw[List.drop_zero]at hd1
 have hM:Mid w s R j [] w1:=by
  refine⟨⟨⟨none,0,hb1,World.ownsRow_nil _ _ _ _⟩,lr⟩,ho1.blk ((Blk.new' rfl rfl).alloc _) om,ho1.below (((Below.refl _ _).alloc lr _).alloc sy _) om (by simp;omega),hj,Nat.zero_le _,by rw[hd1,Lx.skip_skip],?_⟩;rw[HR.out,Lx.scan_skip,←hd1];exact Lx.scan_fuel _ _ _ _ (by simp;omega) _ sy
 have HM:=qh hM;clear hM hb1 ho1 hd1 hb0
 go_loopg [5] (s.size-j) (fun k _ wr=>∃(j:Nat) (ts:List Lx.Tok),k=s.size-j∧Mid w s R j ts wr)
 case atStart=>exact⟨j,[],rfl,HM.out⟩
 case round =>
  clear HM hj hj0;obtain⟨j,ts,hgk,hM⟩:=hrel;have HGK:=qh hgk;have HM:=qh hM;have c1:=hM.st.c1;have HC1:=qh c1;have hle:=hM.le;have hfew:=hM.few;clear hgk
  by_cases hlt:j<s.size
  · have i1:(j:Int)<(s.size:Int):=om
    have htok:=zjl (w.heap.size+1) (w.heap.size+1) s j ts wr hM.st om hlt hs _ rfl
    cases ht:Lx.token (s.data.toList.drop j)with
    | inl x =>
     rw[ht]at htok;have HTOK:=qh htok;have HB:=qh (zpk hM hlt ht);have ft:=hM.ft;clear htok ht hM;generalize hX:s.size-x.length=X at *;have HFT:=qh ft;have HBEL:=qh HM.out.bel;have hX8:X≤8000:=om;clear HM c1 ft;have hcc:∀w2,Blk w2 w.heap.size 29 [.int .i64 0,.int .i64 0]→w2.cell? ⟨w.heap.size,0,none⟩=some (.int .i64 0)∧w2.cell? ⟨w.heap.size,1,none⟩=some (.int .i64 0):=fun w2 hb=>⟨by rw[hb.cell];rfl,by rw[hb.cell];rfl⟩
     have HCC:=qh hcc;clear hcc;have c1:=HC1.out
     go_wp2_with (go_at_call 79;refine HTOK.out.mono ?_;rintro e w2 ⟨rfl,hB2⟩;have hf2:Blk w2 w.heap.size 29 [.int .i64 0,.int .i64 0]:=HFT.out.below hB2 om;obtain⟨d0,d1⟩:=HCC.out _ hf2;have f0:=hf2.frozen 0;have f1:=hf2.frozen 1)
     have hsc:=zl9 hs (HR.out.symm.trans HB.out);rw[hX]at hsc;have hB3:Below w.heap.size w w2:=HBEL.out.trans (hB2.mono om);have hb3:=(hf2.set_ 0 (.int .i64 9)).set_ 1 (.int .i64 X);refine bodyPost_ret (zbm rfl _ w.heap.size 29 [.int .i64 9,.int .i64 X] rfl hb3 _ Tryz.underlying29 rfl hd48) rfl ?_;rw[hsc];exact⟨none,0,rfl,lr,World.ownsRow_nil _ _ _ _,(hB3.setCell lr _).setCell lr _⟩
    | inr p =>
     obtain⟨k,t,m,x⟩:=p;rw[ht]at htok;have HTOK:=qh htok;have hsuf:=zjq ht;have hxl:s.size-x.length≤s.size:=om;have HT:=qh ht;have HSUF:=qh hsuf;clear htok ht hM hsuf;obtain⟨X,hX⟩:=ex9 (s.size-x.length);rw[←hX]at hxl;have HX:=qh hX;clear hX;have HSK:=qh (fun w2 (h:St w2 (w.heap.size+1) (w.heap.size+1) s X (ts++[⟨k,t,m,j⟩]))=>zor (w.heap.size+1) (w.heap.size+1) s X _ w2 h hxl hs)
     go_wp2_with (first
      | (go_at_call 79;refine HTOK.out.mono ?_;rintro e w2 ⟨rfl,h2,hB2⟩;have H2:=qh (by rw[HX.out];exact h2:St w2 (w.heap.size+1) (w.heap.size+1) s X (ts++[⟨k,t,m,j⟩]));clear h2)
      | (go_at_call 78;refine(HSK.out _ H2.out).mono ?_;rintro e w3 ⟨rfl,j',hj0',hj',hd4,h4,ho4⟩))
     have h2:=H2.out;obtain⟨hlt2,hres⟩:=znd HM.out hlt HT.out X hxl (by rw[HX.out];exact HSUF.out) j' hj' hd4;have hB4:Below (w.heap.size+1) wr w3:=ho4.below hB2 lr (Nat.le_of_lt h2.lt)
     have hM':Mid w s R j' (ts++[⟨k,t,m,j⟩]) w3 :=
      ⟨h4,HM.out.ft.below hB4 om,HM.out.bel.trans (hB4.mono om),hj',by rw[la9];simp;omega,by rw[hd4,Lx.skip_skip],hres⟩
     go_roundg (s.size-j')
     case measure=>have:=HGK.out;omega
     case rel=>exact⟨j',_,rfl,hM'⟩
  · have hge:s.size≤j:=om
    have HE:=qh (zpj hM hge);have hje:j=s.size:=om;subst hje;have hadd:=ze6 (w.heap.size+1) (w.heap.size+1) s s.size s.size ts 6 [] 0 wr hM.st om;have HADD:=qh hadd;clear hadd hM
    go_wp2_with (go_at_call 80;refine HADD.out.mono ?_;rintro e w2 ⟨rfl,h2,hB2⟩;obtain⟨⟨A3,c3,hb3,hown3⟩,hle3⟩:=id h2;have c2:=scn2 hb3;have hf2:Blk w2 w.heap.size 29 [.int .i64 0,.int .i64 0]:=HM.out.ft.below hB2 om;have d0:w2.cell? ⟨w.heap.size,0,none⟩=some (.int .i64 0):=by rw[hf2.cell];rfl
                 have d1:w2.cell? ⟨w.heap.size,1,none⟩=some (.int .i64 0):=by rw[hf2.cell];rfl
                 have f0:=hf2.frozen 0
                 have f1:=hf2.frozen 1)
    have hsc:=zl8 hs (HR.out.symm.trans HE.out);refine bodyPost_ret (zbm rfl _ w.heap.size 29 [.int .i64 0,.int .i64 0] rfl ((hf2.set_ 0 _).set_ 1 _) _ Tryz.underlying29 rfl hd48) rfl ?_;rw[hsc];have hlen:(ts++[(⟨6,[],0,s.size⟩:Lx.Tok)]).length=ts.length+1:=by simp
    have ho:Only w2 ((w2.setCell ⟨w.heap.size,0,none⟩ (.int .i64 0)).setCell ⟨w.heap.size,1,none⟩ (.int .i64 0)) w.heap.size:=((Only.refl w2 w.heap.size).setCell 0 _).setCell 1 _;have hown4:=znb (hown3.kept ho.grown (.inr (zbv hown3 hf2 (by decide)))) (Nat.le_succ w.heap.size);refine⟨A3,c3,by simp only[hlen];rfl,?_,hown4,?_⟩
    · obtain⟨A',c',e',hc'⟩:=zc5 hown4
      injection e' with _ _ e'
      subst e';exact hc'
    · exact ho.below (HM.out.bel.trans (hB2.mono om)) lr (Nat.le_of_lt hf2.lt)
theorem zmb(s:ByteArray)(w:World):Calls Tryz.prog 45 #[.string s] w (ScanPost w (Lx.scan s.data.toList)):=by
 by_cases h:s.size≤8000
 · exact ziq s w h
 · exact zma s w om
end Go.Proofs.YtafjkbbiaopemaaGreatDoor
