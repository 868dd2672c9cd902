/- Part of the proof. -/
import Derived.Deep.LoopGhost
import Derived.Deep.RegionLaw
import Derived.Test.YtafjkbbiaopemaaGreatDoorBax02
set_option linter.all false
set_option maxRecDepth 100000
set_option maxHeartbeats 0
namespace Go.Proofs.YtafjkbbiaopemaaGreatDoor
open Go.RowKit
theorem zox(g:Nat)(s:ByteArray)(i:Nat)(letters:Bool)(w:World)(hc:w.cell? ⟨g,0,none⟩=some (.string s))(hi:i≤s.size)(hs:s.size≤8000):
 Calls Tryz.prog 126 #[.pointer (some ⟨g,0,none⟩),.int .i64 i,.bool letters] w fun e w'=>e=.returned (.int .i64 ((i+((s.data.toList.drop i).takeWhile (runP letters)).length:Nat):Int))∧w'=w:=by
 go_enter Tryz.func126, Tryz.ntmps126
 go_wp2_with fail
 go_loop [1] (fun v=>∃k:Nat,k≤s.size∧v=.int .i64 k∧Hid (k+((s.data.toList.drop k).takeWhile (runP letters)).length=i+((s.data.toList.drop i).takeWhile (runP letters)).length)) (fun v=>s.size-(intOf v).toNat)
 case atStart=>exact⟨i,hi,rfl,rfl⟩
 case round =>
  obtain⟨k,hk,rfl,HK⟩:=hrel
  by_cases hlt:k<s.size
  · have hx:=zb7 s k hlt
    have i0:(0:Int)≤(k:Int):=om;have i1:(k:Int)<(s.size:Int):=om;generalize hxx:s[k]=x at hx
    by_cases hp:runP letters x=true
    · have HST:=qh (zmi hx hp)
      have hcase:Lx.digit x=true∨(Lx.digit x=false∧letters=true∧Lx.letter x=true):=by
       cases letters <;> simp[runP,Lx.alnum]at hp <;> cases hd:Lx.digit x <;> simp_all
      clear hx hp
      rcases hcase with hd|⟨hd,rfl,hl⟩
      all_goals
        go_wp2_with (first
         | (go_at_call 107;refine(ze0 _ _).mono ?_;rintro e w' ⟨rfl,rfl⟩)
         | (go_at_call 105;refine(zbw _ _).mono ?_;rintro e w' ⟨rfl,rfl⟩))
        go_round
        case rel=>exact⟨k+1,by omega,by go_num,by show _=_;rw[←HK.out,HST.out];omega⟩
        case measure=>simp[intOf];omega
    · have hp':runP letters x=false:=by simpa using hp
      have HST:=qh (zmh hx hp')
      have hcase:Lx.digit x=false∧(letters=false∨(letters=true∧Lx.letter x=false)):=by
       cases letters <;> simp[runP,Lx.alnum]at hp' <;> simp_all
      clear hx hp hp';obtain⟨hd,rfl|⟨rfl,hl⟩⟩:=hcase
      all_goals
        go_wp2_with (first
         | (go_at_call 107;refine(ze0 _ _).mono ?_;rintro e w' ⟨rfl,rfl⟩)
         | (go_at_call 105;refine(zbw _ _).mono ?_;rintro e w' ⟨rfl,rfl⟩))
        go_ret;refine⟨zft ?_,rfl⟩;rw[←HK.out,HST.out]
        simp
  · have HST:=qh (zov (p:=runP letters) (l:=s.data.toList) (i:=k) (by simp;omega))
    have hge:decide ((k:Int)<(s.size:Int))=false:=by simp;omega
    go_wp2_with fail
    go_ret;refine⟨zft ?_,rfl⟩;have h1:=HK.out;have h2:=HST.out;omega
theorem Only.refl(w:World)(g:Nat):Only w w g:=⟨World.grownBy.refl w _,rfl⟩
theorem Only.trans{a b c:World}{g:Nat}(h:Only a b g)(k:Only b c g):Only a c g :=
 ⟨⟨k.grown.os.trans h.grown.os,k.grown.tape.trans h.grown.tape,k.grown.output.trans h.grown.output,Nat.le_trans h.grown.size k.grown.size,fun i hi hne=>(k.grown.block i (Nat.lt_of_lt_of_le hi h.grown.size) hne).trans (h.grown.block i hi hne)⟩,k.size.trans h.size⟩
theorem Only.drewN{a b:World}{g:Nat}(h:Only a b g)(n:Nat):Only a (b.drewN n) g:=⟨⟨h.grown.os,h.grown.tape,h.grown.output,h.grown.size,h.grown.block⟩,h.size⟩
theorem Only.setCell{a b:World}{g:Nat}(h:Only a b g)(i:Nat)(u:Value):Only a (b.setCell ⟨g,i,none⟩ u) g :=
 h.trans ⟨⟨rfl,rfl,rfl,by simp[World.setCell],fun k _ hne=>Below.heap_setCell b ⟨g,i,none⟩ u k (fun e=>hne (by rw[e]))⟩,by simp[World.setCell]⟩
def scn(s:ByteArray)(i:Nat)(lv:Value):List Value:=[.string s,.int .i64 i,lv]
theorem scn0{w:World}{g:Nat}{s:ByteArray}{i:Nat}{lv:Value}(h:Blk w g 125 (scn s i lv)):w.cell? ⟨g,0,none⟩=some (.string s):=by rw[h.cell];rfl
theorem scn1{w:World}{g:Nat}{s:ByteArray}{i:Nat}{lv:Value}(h:Blk w g 125 (scn s i lv)):w.cell? ⟨g,1,none⟩=some (.int .i64 i):=by rw[h.cell];rfl
theorem scn2{w:World}{g:Nat}{s:ByteArray}{i:Nat}{lv:Value}(h:Blk w g 125 (scn s i lv)):w.cell? ⟨g,2,none⟩=some lv:=by rw[h.cell];rfl
theorem zfp{w:World}{g:Nat}{s:ByteArray}{i j:Nat}{lv:Value}(h:Blk w g 125 (scn s i lv)):Blk (w.setCell ⟨g,1,none⟩ (.int .i64 j)) g 125 (scn s j lv):=h.set_ 1 _
theorem zl7{w:World}{g:Nat}{s:ByteArray}{i:Nat}{lv lv':Value}(h:Blk w g 125 (scn s i lv)):Blk (w.setCell ⟨g,2,none⟩ lv') g 125 (scn s i lv'):=h.set_ 2 _
theorem zai{l:List UInt8}{i:Nat}{x:UInt8}(hx:l[i]? = some x):l.drop i=x :: l.drop (i+1):=by
 have hi:i<l.length:=(gi9.1 hx).1;rw[List.drop_eq_getElem_cons hi,(gi9.1 hx).2]
theorem zip{l:List UInt8}{i:Nat}{x:UInt8}(hx:l[i]? = some x)(hb:Lx.blank x=true):Lx.skip false (l.drop i)=Lx.skip false (l.drop (i+1)):=by
 rw[zai hx];simp[Lx.skip,hb]
theorem zl5{l:List UInt8}{i:Nat}{x:UInt8}(hx:l[i]? = some x)(hb:x=35):Lx.skip false (l.drop i)=Lx.skip true (l.drop i):=by
 subst hb;rw[zai hx];simp[Lx.skip,Lx.blank]
theorem zos{l:List UInt8}{i:Nat}{x:UInt8}(hx:l[i]? = some x)(hb:x≠10):Lx.skip true (l.drop i)=Lx.skip true (l.drop (i+1)):=by
 rw[zai hx];simp[Lx.skip,hb]
theorem zl4{l:List UInt8}{i:Nat}{x:UInt8}(hx:l[i]? = some x)(hb:x=10):Lx.skip true (l.drop i)=Lx.skip false (l.drop i):=by
 subst hb;rw[zai hx];simp[Lx.skip,Lx.blank]
theorem zfm{l:List UInt8}{i:Nat}(h:l.length≤i)(c:Bool):Lx.skip c (l.drop i)=[]:=by
 rw[List.drop_eq_nil_of_le h];simp[Lx.skip]
theorem zjt{l:List UInt8}{i:Nat}{x:UInt8}(hx:l[i]? = some x)(hb:Lx.blank x=false)(hc:x≠35):Lx.skip false (l.drop i)=l.drop i:=by
 rw[zai hx];simp[Lx.skip,hb,hc]
theorem za7{x k:UInt8}(h:x≠k):((x.toNat:Int) == (k.toNat:Int))=false:=by
 simp only[beq_eq_false_iff_ne,ne_eq];intro e;exact h (UInt8.toNat_inj.1 om)
theorem zpz{x k:UInt8}(h:x≠k):((x.toNat:Int) != (k.toNat:Int))=true:=by rw[bne,za7 h];rfl
theorem zgq(l:List UInt8)(x:UInt8):decide (0≤Lib.indexByte l x)=l.contains x:=by
 rw[Bool.eq_iff_iff];simp only[decide_eq_true_eq,List.contains_iff_mem]
 induction l with
 | nil=>simp[Lib.indexByte]
 | cons c l ih =>
  have hge:=Lib.indexByte_ge l x;simp only[Lib.indexByte,List.mem_cons]
  by_cases hc:c=x
  · subst hc;simp
  · have hc':(c == x)=false:=by simpa using hc
    have hx:¬x=c:=fun e=>hc e.symm
    rw[hc']
    by_cases hm:Lib.indexByte l x=-1
    · have:¬x∈l:=fun h=>by have:=ih.2 h;omega
      simp[hm,hx,this]
    · have:x∈l:=ih.1 om
      have hm':(Lib.indexByte l x == -1)=false:=by simpa using hm
      simp only[hm',Bool.false_eq_true,if_false,this,or_true,iff_true];omega
theorem zh7(x:UInt8):decide (0≤Lib.indexByte [32,9,10] x)=Lx.blank x:=by
 rw[zgq]
 unfold Lx.blank
 simp only[List.contains_cons,List.contains_nil,Bool.or_false,Bool.or_assoc]
theorem zhv(g:Nat)(s:ByteArray)(i:Nat)(lv:Value)(w:World)(hb:Blk w g 125 (scn s i lv))(hi:i≤s.size)(hs:s.size≤8000):
 Calls Tryz.prog 78 #[.pointer (some ⟨g,0,none⟩)] w fun e w'=>e=.returned (.tuple #[])∧∃j:Nat,i≤j∧j≤s.size∧Blk w' g 125 (scn s j lv)∧Only w w' g∧s.data.toList.drop j=Lx.skip false (s.data.toList.drop i):=by
 go_enter Tryz.func78, Tryz.ntmps78
 go_wp2_with fail
 go_loopg [12] (s.size-i) (fun k _ wr=>∃j:Nat,i≤j∧j≤s.size∧k=s.size-j∧Blk wr g 125 (scn s j lv)∧Only w wr g∧Hid (Lx.skip false (s.data.toList.drop j)=Lx.skip false (s.data.toList.drop i)))
 case atStart=>exact⟨i,lr,hi,rfl,hb,Only.refl _ _,rfl⟩
 case round =>
  obtain⟨j,hij,hj,hgk,hbr,hor,HK⟩:=hrel;have HGK:=qh hgk;clear hgk;have c0:=scn0 hbr;have c1:=scn1 hbr
  by_cases hlt:j<s.size
  · have i0:(0:Int)≤(j:Int):=om
    have i1:(j:Int)<(s.size:Int):=om;have hx:=zb7 s j hlt;generalize hxx:s[j]=x at hx;have HX:=qh hx;clear hx
    go_wp2_with fail
    go_quiet (fail)
    have hb1:=hbr.drewN nq;have ho1:=hor.drewN nq;have c0':=scn0 hb1;have c1':=scn1 hb1;clear hbr hor c0 c1;generalize wr.drewN nq=w1 at *
    by_cases hbl:Lx.blank x=true
    · have hib:=zh7 x
      rw[hbl]at hib;have hsk:=zip HX.out hbl;have HSK:=qh hsk;clear hsk hbl;have hib':decide (0≤Lib.indexByte [32,9,10] x)=true:=hib;clear hib
      go_wp2_with fail
      go_quiet ((go_at_call 104;exact Calls.quiet_of_same (za1 _ _ _)))
      have hb2:=hb1.drewN nq;have ho2:=ho1.drewN nq;have c0:=scn0 hb2;have c1:=scn1 hb2;have f1:=hb2.frozen 1;clear hb1 ho1 c0' c1';generalize w1.drewN nq=w2 at *
      go_wp2_with fail
      go_roundg (s.size-(j+1))
      case measure=>have:=HGK.out;omega
      case rel=>exact⟨j+1,by omega,by omega,rfl,zfp hb2,ho2.setCell _ _,HSK.out.symm.trans HK.out⟩
    · have hbl':Lx.blank x=false:=by simpa using hbl
      have hib:=zh7 x;rw[hbl']at hib;have hib':decide (0≤Lib.indexByte [32,9,10] x)=false:=hib;have HBL:=qh hbl';clear hib hbl hbl'
      by_cases h35:x=35
      · have H35:=qh h35
        have hq:((x.toNat:Int) == 35)=true:=by rw[h35];rfl
        have HSK:=qh (zl5 HX.out h35);clear h35
        go_wp2_with fail
        go_quiet ((go_at_call 104;exact Calls.quiet_of_same (za1 _ _ _)))
        have hb2:=hb1.drewN nq;have ho2:=ho1.drewN nq;have c0:=scn0 hb2;have c1:=scn1 hb2;clear hb1 ho1 c0' c1';generalize w1.drewN nq=w2 at *
        go_wp2_with fail
        go_quiet (fail)
        have hb3:=hb2.drewN nq;have ho3:=ho2.drewN nq;clear hb2 ho2 c0 c1;generalize w2.drewN nq=w3 at *
        go_wp2_with fail
        go_loopg [63] (s.size-j) (fun k _ wq=>∃m:Nat,j≤m∧m≤s.size∧k=s.size-m∧Blk wq g 125 (scn s m lv)∧Only w wq g∧Hid (Lx.skip true (s.data.toList.drop m)=Lx.skip false (s.data.toList.drop i)))
        case atStart=>exact⟨j,lr,hj,rfl,hb3,ho3,HSK.out.symm.trans HK.out⟩
        case round =>
         clear hb3 ho3;obtain⟨m,hjm,hm,hgm,hbm,hom,HM⟩:=hrel;have HGM:=qh hgm;clear hgm;have c0:=scn0 hbm;have c1:=scn1 hbm
         by_cases hml:m<s.size
         · have k0:(0:Int)≤(m:Int):=om
           have k1:(m:Int)<(s.size:Int):=om;have hy:=zb7 s m hml;generalize hyy:s[m]=y at hy;have HY:=qh hy;clear hy
           by_cases h10:y=10
           · have hq2:((y.toNat:Int) != 10)=false:=by rw[h10];rfl
             have hne:j<m:=by
              rcases Nat.lt_or_ge j m with h|h
              · exact h
              · exfalso
                have:j=m:=om;subst this;have:=HX.out.symm.trans HY.out
                injection this with this
                rw[H35.out,h10]at this
                cases this
             have HSO:=qh (zl4 HY.out h10);clear h10
             go_wp2_with fail
             go_quiet (fail)
             have hb4:=hbm.drewN nq;have ho4:=hom.drewN nq;clear hbm hom c0 c1;generalize wr.drewN nq=w4 at *
             go_wp2_with fail
             go_roundg (s.size-m)
             case measure=>have:=HGK.out;omega
             case rel=>exact⟨m,by omega,by omega,rfl,hb4,ho4,HSO.out.symm.trans HM.out⟩
           · have hq2:((y.toNat:Int) != 10)=true:=zpz (k:=10) h10
             have HSI:=qh (zos HY.out h10);clear h10
             go_wp2_with fail
             go_quiet (fail)
             have hb4:=hbm.drewN nq;have ho4:=hom.drewN nq;clear hbm hom c0 c1;generalize wr.drewN nq=w4 at *;have c0:=scn0 hb4;have c1:=scn1 hb4;have f1:=hb4.frozen 1
             go_wp2_with fail
             go_roundg (s.size-(m+1))
             case measure=>have:=HGM.out;omega
             case rel=>exact⟨m+1,by omega,by omega,rfl,zfp hb4,ho4.setCell _ _,HSI.out.symm.trans HM.out⟩
         · have hge:decide ((m:Int)<(s.size:Int))=false:=by simp;omega
           have HSE:=qh ((zfm (l:=s.data.toList) (i:=m) (by simp;omega) true).trans (zfm (l:=s.data.toList) (i:=m) (by simp;omega) false).symm)
           go_wp2_with fail
           go_quiet (fail)
           have hb4:=hbm.drewN nq;have ho4:=hom.drewN nq;clear hbm hom c0 c1;generalize wr.drewN nq=w4 at *
           go_wp2_with fail
           go_roundg (s.size-m)
           case measure=>have:=HGK.out;omega
           case rel=>exact⟨m,by omega,by omega,rfl,hb4,ho4,HSE.out.symm.trans HM.out⟩
      · have hq:((x.toNat:Int) == 35)=false:=za7 (k:=35) h35
        have HSK:=qh (zjt HX.out HBL.out h35);clear h35
        go_wp2_with fail
        go_quiet ((go_at_call 104;exact Calls.quiet_of_same (za1 _ _ _)))
        have hb2:=hb1.drewN nq;have ho2:=ho1.drewN nq;have c0:=scn0 hb2;have c1:=scn1 hb2;clear hb1 ho1 c0' c1';generalize w1.drewN nq=w2 at *
        go_wp2_with fail
        go_quiet (fail)
        have hb3:=hb2.drewN nq;have ho3:=ho2.drewN nq;clear hb2 ho2 c0 c1;generalize w2.drewN nq=w3 at *
        go_wp2_with fail
        exact bodyPost_ret (results_none rfl _ _ _) rfl ⟨rfl,j,hij,hj,hb3,ho3,HSK.out.symm.trans HK.out⟩
  · have HSK:=qh (zfm (l:=s.data.toList) (i:=j) (by simp;omega) false)
    have hge:decide ((j:Int)<(s.size:Int))=false:=by simp;omega
    go_wp2_with fail
    go_quiet (fail)
    have hb1:=hbr.drewN nq;have ho1:=hor.drewN nq;clear hbr hor c0 c1;generalize wr.drewN nq=w1 at *
    go_wp2_with fail
    have hdn:s.data.toList.drop j=[]:=List.drop_eq_nil_of_le (by simp;omega)
    first
     | exact bodyPost_end (results_none rfl _ _ _) rfl ⟨rfl,j,hij,hj,hb1,ho1,hdn.trans (HSK.out.symm.trans HK.out)⟩
     | exact bodyPost_ret (results_none rfl _ _ _) rfl ⟨rfl,j,hij,hj,hb1,ho1,hdn.trans (HSK.out.symm.trans HK.out)⟩
def bytesOf(l:List UInt8):ByteArray:=⟨l.toArray⟩
def tokCells(t:Lx.Tok):List Value:=[.int .i64 t.kind,.string (bytesOf t.text),.int .i64 t.num,.int .i64 t.at_]
def toksCells(l:List Lx.Tok):List Value:=l.flatMap tokCells
theorem ze7(l:List Lx.Tok)(t:Lx.Tok):toksCells (l++[t])=toksCells l++tokCells t:=by simp[toksCells]
theorem eTok:ElemIs Tryz.prog 72 4 40:=ElemIs.of (z:=.agg #[.int .i64 0,.string ByteArray.empty,.int .i64 0,.int .i64 0]) kr rfl om
theorem zbv{w:World}{base g:Nat}{e t:TypeId}{size n:Nat}{v:Value}{xs cs:List Value}(h:w.ownsRow base e size v n xs)(hg:Blk w g t cs)(hne:e≠t):v.ownBlock≠some g:=by
 rcases h.2 with ⟨rfl,_⟩|⟨g',cap,cur,rfl,_,hh,_⟩
 · simp[Value.ownBlock]
 · intro he
   have:g'=g:=by simpa[Value.ownBlock] using he
   subst this
   unfold Blk at hg
   rw[hh]at hg
   injection hg with hg
   injection hg with _ ht
   exact hne ht
structure St(w:World)(B g:Nat)(s:ByteArray)(i:Nat)(ts:List Lx.Tok):Prop where
 ex:∃A c,Blk w g 125 (scn s i (.slice A ts.length c))∧w.ownsRow B 72 4 (.slice A ts.length c) ts.length (toksCells ts)
 le:B≤g
theorem ze6(B g:Nat)(s:ByteArray)(i j:Nat)(ts:List Lx.Tok)(k:Nat)(t:List UInt8)(m:Nat)(w:World)(h:St w B g s i ts)(hn:ts.length≤100000):
 Calls Tryz.prog 80 #[.pointer (some ⟨g,0,none⟩),.int .i64 k,.string (bytesOf t),.int .i64 m,.int .i64 j] w fun e w' =>
  e=.returned (.tuple #[])∧St w' B g s j (ts++[⟨k,t,m,i⟩])∧Below B w w':=by
 obtain⟨⟨A,c,hb,hown⟩,hBg⟩:=h;generalize hN:ts.length=n at *;have HN:=qh hN;clear hN;have hne:=zbv hown hb (by decide);have HNE:=qh hne;clear hne;have c1:=(scn1 hb);have c2:=(scn2 hb);have hgs:=hb.lt;generalize hT:bytesOf t=T at *;have HT:=qh hT;clear hT
 go_enter Tryz.func80, Tryz.ntmps80
 go_wp2_with fail
 have f2:=hb.frozen 2
 go_region_law ((refine zfl rfl (.tmp 14) (.tmp 23) 65 rfl B 72 4 40 Tryz.underlying65 eTok (.slice A n c) n (toksCells ts) rr (by exact hown.alloc _) (some ⟨w.heap.size,0,none⟩) 1 1 [.int .i64 k,.string T,.int .i64 m,.int .i64 i] rr (by exact RdS.new _ _ [.int .i64 k,.string T,.int .i64 m,.int .i64 i] 4 rfl) (by simp[Value.oneCell']) om om (by simp;omega) ?_;intro A2 c2' w2 hown2 hc2 hg2 hat2;have hb2:Blk w2 g 125 (scn s i (.slice A n c)):=Blk.grown (hb.alloc _).drew hg2 (fun e=>HNE.out e.symm);have c2x:=scn2 hb2;have f2x:=hb2.frozen 2))
 all_goals
   have hB2:Below B w w2:=((Below.refl _ _).alloc om _).drew.grown hg2 (by simp;omega) (fun q hq=>(hown.lt q hq).1);have hne2:=zbv hown2 hb2 (by decide);have hb3:=zl7 (lv':=.slice A2 (n+1) c2') hb2
   have hown3:(w2.setCell ⟨g,2,none⟩ (.slice A2 (n+1) c2')).ownsRow B 72 4 (.slice A2 (n+1) c2') (n+1) (toksCells ts++[.int .i64 k,.string T,.int .i64 m,.int .i64 i]) :=
    hown2.kept (row:=some g) ⟨rfl,rfl,rfl,by simp[World.setCell],fun q _ hq=>Below.heap_setCell w2 ⟨g,2,none⟩ _ q (fun e=>hq (by rw[e]))⟩ (.inr hne2)
   have hB3:Below B w (w2.setCell ⟨g,2,none⟩ (.slice A2 (n+1) c2')):=hB2.setCell hBg _;clear hB2 hne2 hg2 hat2 hown2 hb2 c2x f2x hown hb c1 c2 f2;generalize w2.setCell ⟨g,2,none⟩ (.slice A2 (n+1) c2')=w3 at *;have c1:=scn1 hb3;have f1:=hb3.frozen 1
   go_wp2_with fail
   have hne3:=zbv hown3 hb3 (by decide)
   have hown4:(w3.setCell ⟨g,1,none⟩ (.int .i64 j)).ownsRow B 72 4 (.slice A2 (n+1) c2') (n+1) (toksCells ts++[.int .i64 k,.string T,.int .i64 m,.int .i64 i]) :=
    hown3.kept (row:=some g) ⟨rfl,rfl,rfl,by simp[World.setCell],fun q _ hq=>Below.heap_setCell w3 ⟨g,1,none⟩ _ q (fun e=>hq (by rw[e]))⟩ (.inr hne3)
   refine bodyPost_end (results_none rfl _ _ _) rfl ⟨rfl,⟨⟨A2,c2',?_,?_⟩,hBg⟩,hB3.setCell hBg _⟩
   · rw[la9,HN.out]
     exact zfp hb3
   · rw[la9,HN.out,ze7]
     rw[←HT.out]at hown4;exact hown4
theorem St.below{w w':World}{B g:Nat}{s:ByteArray}{i:Nat}{ts:List Lx.Tok}(h:St w B g s i ts){B':Nat}(hb:Below B' w w')(hg:∀k,B≤k→k<w.heap.size→k<B'):St w' B g s i ts:=by
 obtain⟨⟨A,c,h1,h2⟩,hle⟩:=h;refine⟨⟨A,c,h1.below hb (hg g hle h1.lt),?_⟩,hle⟩;refine⟨h2.1,?_⟩
 rcases h2.2 with h3|⟨g',cap,cur,hv,hg',hh,r⟩
 · exact .inl h3
 · exact .inr ⟨g',cap,cur,hv,hg',(hb.block g' (hg g' hg' (Array.getElem?_eq_some_iff.1 hh).1)).trans hh,r⟩
theorem St.drewN{w:World}{B g:Nat}{s:ByteArray}{i:Nat}{ts:List Lx.Tok}(h:St w B g s i ts)(n:Nat):St (w.drewN n) B g s i ts:=⟨h.ex,h.le⟩
theorem St.c0{w:World}{B g:Nat}{s:ByteArray}{i:Nat}{ts:List Lx.Tok}(h:St w B g s i ts):w.cell? ⟨g,0,none⟩=some (.string s):=by
 obtain⟨⟨A,c,h1,h2⟩,hle⟩:=h;exact scn0 h1
theorem St.c1{w:World}{B g:Nat}{s:ByteArray}{i:Nat}{ts:List Lx.Tok}(h:St w B g s i ts):w.cell? ⟨g,1,none⟩=some (.int .i64 i):=by
 obtain⟨⟨A,c,h1,h2⟩,hle⟩:=h;exact scn1 h1
theorem zdx(s:ByteArray)(a b:Nat):s.extract a b=bytesOf ((s.data.toList.drop a).take (b-a)):=by
 apply ByteArray.ext
 rw[ByteArray.data_extract]
 unfold bytesOf
 apply Array.toList_inj.1
 rw[Array.toList_extract,List.extract_eq_take_drop]
theorem za2(l:List UInt8):(bytesOf l).data.toList=l:=by simp[bytesOf]
theorem zly{p:UInt8→Bool}(l:List UInt8):l.take (l.takeWhile p).length=l.takeWhile p:=by
 have:=List.takeWhile_prefix p (l:=l);exact(List.prefix_iff_eq_take.1 this).symm
theorem zcn{B g:Nat}{s:ByteArray}{i E:Nat}{t:List UInt8}{ts:List Lx.Tok}{w:World}(letters:Bool)(h:St w B g s i ts)(hi:i≤s.size)(hs:s.size≤8000)(ht:t=(s.data.toList.drop i).takeWhile (runP letters))(hE:E=i+t.length):
 E≤s.size∧i≤E∧(E:Int)-(i:Int)=(t.length:Int)∧s.extract i E=bytesOf t ∧
 Calls Tryz.prog 126 #[.pointer (some ⟨g,0,none⟩),.int .i64 i,.bool letters] w fun e w'=>e=.returned (.int .i64 E)∧w=w':=by
 have c0:=h.c0
 have hEs:E≤s.size:=by
  have:=zjy (p:=runP letters) (l:=s.data.toList) (i:=i) (by simpa using hi);rw[←ht]at this
  simp at this
  omega
 have hrun:=zox g s i letters w c0 hi hs;rw[←ht,←hE]at hrun
 have hext:s.extract i E=bytesOf t:=by
  rw[zdx,hE,Nat.add_sub_cancel_left,ht,zly]
 exact⟨hEs,by omega,by omega,hext,hrun.mono fun _ _ ⟨a,b⟩=>⟨a,b.symm⟩⟩
theorem znc(B g:Nat)(s:ByteArray)(i E:Nat)(t:List UInt8)(ts:List Lx.Tok)(w:World)(h:St w B g s i ts)(hi:i≤s.size)(hs:s.size≤8000)
 (ht:t=(s.data.toList.drop i).takeWhile Lx.alnum) (hE:E=i+t.length) (hbig:t.length>16):
 Calls Tryz.prog 106 #[.pointer (some ⟨g,0,none⟩)] w fun e w'=>e=.returned (.int .i64 i)∧w=w':=by
 have c0:=h.c0;have c1:=h.c1;obtain⟨hEs,hiE,hEl,hext,hrun⟩:=zcn true h hi hs ht hE;have HRUN:=qh hrun;have HEL:=qh hEl;clear hrun ht hE hEl;have hd:decide ((16:Int)<(E:Int)-(i:Int))=true:=by rw[HEL.out];simp;omega
 go_enter Tryz.func106, Tryz.ntmps106
 go_wp2_with (go_at_call 126;refine HRUN.out.mono ?_;rintro e w' ⟨rfl,rfl⟩)
 go_ret;exact⟨rfl,rfl⟩
theorem zpi(B g:Nat)(s:ByteArray)(i E:Nat)(t:List UInt8)(ts:List Lx.Tok)(w:World)(h:St w B g s i ts)(hn:ts.length≤100000)(hi:i≤s.size)(hs:s.size≤8000)
 (ht:t=(s.data.toList.drop i).takeWhile Lx.alnum) (hE:E=i+t.length) (hbig:¬t.length>16):
 Calls Tryz.prog 106 #[.pointer (some ⟨g,0,none⟩)] w fun e w'=>e=.returned (.int .i64 (-1))∧St w' B g s E (ts++[⟨if Lx.reserved t then 2 else 1,t,0,i⟩])∧Below B w w':=by
 have c0:=h.c0;have c1:=h.c1;obtain⟨hEs,hiE,hEl,hext,hrun⟩:=zcn true h hi hs ht hE;have HRUN:=qh hrun;have HEL:=qh hEl;clear hrun ht hE hEl;have hd:decide ((16:Int)<(E:Int)-(i:Int))=false:=by rw[HEL.out];simp;omega
 have hres:∀w,Calls Tryz.prog 127 #[.string (bytesOf t)] w fun e w'=>e=.returned (.bool (Lx.reserved t))∧w=w':=fun w=>by
  have:=zgc (bytesOf t) w;rw[za2]at this;exact this.mono fun _ _ ⟨a,b⟩=>⟨a,b.symm⟩
 have HRES:=qh hres;have j0:(0:Int)≤(i:Int):=om;have j1:(i:Int)≤(E:Int):=om;have j2:(E:Int)≤(s.size:Int):=om;clear hres;obtain⟨K,hK⟩:∃K:Nat,K=if Lx.reserved t then 2 else 1:=⟨_,rfl⟩;rw[←hK]
 by_cases hr:Lx.reserved t=true
 · have hK':K=2:=by rw[hK,hr];rfl
   clear hK;subst hK'
   go_enter Tryz.func106, Tryz.ntmps106
   go_wp2_with (go_at_call 126;refine HRUN.out.mono ?_;rintro e w' ⟨rfl,rfl⟩)
   go_quiet (fail)
   have h1:=h.drewN nq;have HB:Below B w (w.drewN nq):=below_drewN (Below.refl _ _) _;clear c0 c1 HRUN h;generalize w.drewN nq=w1 at *
   go_wp2_with (first
    | (go_at_call 127;refine(HRES.out _).mono ?_;rintro e w' ⟨rfl,rfl⟩)
    | (go_at_call 80;refine(ze6 B g s i E ts 2 t 0 _ h1 hn).mono ?_;rintro e w2 ⟨rfl,h2,hB2⟩))
   go_ret;exact⟨rfl,h2,HB.trans hB2⟩
 · have hr':Lx.reserved t=false:=by simpa using hr
   have hK':K=1:=by rw[hK,hr'];rfl
   clear hK hr;subst hK'
   go_enter Tryz.func106, Tryz.ntmps106
   go_wp2_with (go_at_call 126;refine HRUN.out.mono ?_;rintro e w' ⟨rfl,rfl⟩)
   go_quiet (fail)
   have h1:=h.drewN nq;have HB:Below B w (w.drewN nq):=below_drewN (Below.refl _ _) _;clear c0 c1 HRUN h;generalize w.drewN nq=w1 at *
   go_wp2_with (first
    | (go_at_call 127;refine(HRES.out _).mono ?_;rintro e w' ⟨rfl,rfl⟩)
    | (go_at_call 80;refine(ze6 B g s i E ts 1 t 0 _ h1 hn).mono ?_;rintro e w2 ⟨rfl,h2,hB2⟩))
   go_ret;exact⟨rfl,h2,HB.trans hB2⟩
end Go.Proofs.YtafjkbbiaopemaaGreatDoor
