/- Part of the proof. -/
import Derived.Shelf.Strings.Search1
import Derived.Shelf.Small.Strs
import Derived.Deep.LoopGhost
import Derived.Test.YtafjkbbiaopemaaGreatDoorPrx01
set_option linter.all false
set_option maxRecDepth 100000
set_option maxHeartbeats 0
namespace Go.Proofs.YtafjkbbiaopemaaGreatDoor.Lx
open Go.RowKit
structure Tok where
 kind:Nat
 text:List UInt8
 num:Nat
 at_:Nat
def letter(c:UInt8):Bool:=97≤c && c≤122
def digit(c:UInt8):Bool:=48≤c && c≤57
def alnum(c:UInt8):Bool:=digit c || letter c
def blank(c:UInt8):Bool:=c == 32 || c == 9 || c == 10
def marks:List UInt8:=[59,44,123,125,40,41,61,62,64,33,43,45,42]
def mark(c:UInt8):Bool:=marks.contains c
def words:List (List UInt8) :=
 [[97,99,107,101,100],[97,102,116,101,114],[97,115],[98,108,111,99,107],[99,111,118,101,114],[101,108,115,101],[101,118,101,114,121],[105,102],[106,111,105,110],[108,101,116],
  [114,101,112,101,97,116],[114,101,116,114,121],[114,111,117,116,101],[115,101,110,100],[115,112,108,105,116],[116,105,109,101,115],[118,105,97],[119,97,105,116],[119,105,116,104]]
def reserved(t:List UInt8):Bool:=words.contains t
def hexDigits:List UInt8:=[48,49,50,51,52,53,54,55,56,57,97,98,99,100,101,102]
def hexV(c:UInt8):Option Nat:=if digit c then some (c.toNat-48) else if 97≤c && c≤102 then some (c.toNat-87) else none
def skip(com:Bool):List UInt8→List UInt8
 | []=>[]
 | c :: r=>if com then (if c == 10 then skip false r else skip true r) else if blank c then skip false r else if c == 35 then skip true r else c :: r
def esc:List UInt8→Option (UInt8 × Nat)
 | []=>none
 | c :: r =>
  if c == 34 || c == 92 then some (c,2)
  else if c == 110 then some (10,2)
  else if c == 120 then
   match r with
   | h :: l :: _=>match hexV h,hexV l with
    | some a,some b=>some (UInt8.ofNat (16*a+b),4)
    | _,_=>none
   | _=>none
  else none
def text:Nat→List UInt8→List UInt8→Sum (List UInt8) (List UInt8 × List UInt8)
 | 0,r,_=>.inl r
 | f+1,r,acc =>
  match r with
  | []=>.inl []
  | c :: r' =>
   if c == 34 then .inr (acc,r')
   else if c == 92 then
    match esc r' with
    | none=>.inl r
    | some (m,k)=>text f (r.drop k) (acc++[m])
   else if c<32 || c>126 then .inl r
   else text f r' (acc++[c])
def numOf(t:List UInt8):Nat:=t.foldl (fun n c=>10*n+(c.toNat-48)) 0
def token(r:List UInt8):Sum (List UInt8) (Nat × List UInt8 × Nat × List UInt8) :=
 match r with
 | []=>.inl []
 | c :: r' =>
  if letter c then
   let t:=r.takeWhile alnum
   if t.length>16 then .inl r else .inr (if reserved t then 2 else 1,t,0,r.drop t.length)
  else if digit c then
   let t:=r.takeWhile digit
   if t.length>9 || (t.length>1 && c == 48) then .inl r
   else if (r.drop t.length).head?.any letter then .inl (r.drop t.length)
   else .inr (3,t,numOf t,r.drop t.length)
  else if c == 34 then
   match text r'.length.succ r' []with
   | .inl x=>.inl x
   | .inr (b,x)=>.inr (4,b,0,x)
  else if mark c then .inr (5,[c],0,r')
  else .inl r
def scanF(n:Nat):Nat→List UInt8→List Tok→Sum (List UInt8) (List Tok)
 | 0,r,_=>.inl r
 | f+1,r,acc =>
  match skip false r with
  | []=>.inr (acc++[⟨6,[],0,n⟩])
  | c :: r1 =>
   match token (c :: r1)with
   | .inl x=>.inl x
   | .inr (k,t,m,x)=>scanF n f x (acc++[⟨k,t,m,n-(c :: r1).length⟩])
def scan(s:List UInt8):(Nat × Nat) × List Tok :=
 if s.length>8000 then ((2,0),[])
 else match scanF s.length (s.length+1) s []with
  | .inl x=>((9,s.length-x.length),[])
  | .inr ts=>((0,0),ts)
end Go.Proofs.YtafjkbbiaopemaaGreatDoor.Lx
namespace Go.Proofs.YtafjkbbiaopemaaGreatDoor
open Go.RowKit
def Tryz.lays137_ren:Go.Shelf.Ren:=⟨fun|137=>104 | 217=>125 | 266=>135 | n=>n,fun|9=>9 | 5=>5 | 3=>3 | n=>n,fun|n=>n⟩
theorem Tryz.lays137:Go.Proofs.Lays.n137 Tryz.prog Tryz.lays137_ren:={
 mixed:=by kernel_rfl
 f137:=Tryz.func104.trans (congrArg some kr)
 f217:=Tryz.func125.trans (congrArg some kr)
 f266:=Tryz.func135.trans (congrArg some kr)
 t3:=Tryz.underlying3
 a3:=Tryz.isAgg3
 z3:=Tryz.sizeOf3
 v3:=Tryz.zeroValue3
 t5:=Tryz.underlying5
 a5:=Tryz.isAgg5
 z5:=Tryz.sizeOf5
 v5:=Tryz.zeroValue5
 t9:=Tryz.underlying9
 a9:=Tryz.isAgg9
 z9:=Tryz.sizeOf9
 v9:=Tryz.zeroValue9 }
theorem zax(s:ByteArray)(x:UInt8)(w:World):
 Calls Tryz.prog 104 #[.string s,.int .u8 x.toNat] w fun e w'=>e=.returned (.int .i64 (Lib.indexByte s.data.toList x))∧w'=w:=by
 have:=Any.strings_IndexByte Tryz.lays137 s (x.toNat:Int) w;simp only[Int.toNat_natCast,Nat.toUInt8_eq,UInt8.ofNat_toNat]at this;exact this
theorem zeb{a b:Bool}(h:a=b):Ending.returned (.bool a)=.returned (.bool b):=by rw[h]
theorem zlp(x:UInt8):Lx.letter x=(decide (97≤(x.toNat:Int)) && decide ((x.toNat:Int)≤122)):=by
 rw[Bool.eq_iff_iff];simp[Lx.letter,UInt8.le_iff_toNat_le];omega
theorem zeh(x:UInt8):Lx.digit x=(decide (48≤(x.toNat:Int)) && decide ((x.toNat:Int)≤57)):=by
 rw[Bool.eq_iff_iff];simp[Lx.digit,UInt8.le_iff_toNat_le];omega
theorem zbr(x:UInt8)(w:World):Calls Tryz.prog 105 #[.int .u8 x.toNat] w fun e w'=>e=.returned (.bool (Lx.letter x))∧w'=w:=by
 go_enter Tryz.func105, Tryz.ntmps105
 go_wp2
 all_goals
   go_ret;refine⟨zeb ?_,rfl⟩;rw[zlp]
   simp[*]
   try omega
theorem ze7(x:UInt8)(w:World):Calls Tryz.prog 107 #[.int .u8 x.toNat] w fun e w'=>e=.returned (.bool (Lx.digit x))∧w'=w:=by
 go_enter Tryz.func107, Tryz.ntmps107
 go_wp2
 all_goals
   go_ret;refine⟨zeb ?_,rfl⟩;rw[zeh]
   simp[*]
   try omega
theorem zgg(s:ByteArray)(w:World):Calls Tryz.prog 127 #[.string s] w fun e w'=>e=.returned (.bool (Lx.reserved s.data.toList))∧w'=w:=by
 rw[←ByteArray.toList_eq]
 go_enter Tryz.func127, Tryz.ntmps127
 go_wp2
 all_goals first
  | (exfalso;simp_all;done)
  | (go_ret;refine⟨zeb ?_,rfl⟩;generalize s.toList=t at *
     unfold Lx.reserved Lx.words
     simp only[List.contains_cons,List.contains_nil,Bool.or_false]
     simp[*])
def hexI(x:UInt8):Int:=match Lx.hexV x with|some v=>v|none=>-1
theorem zrf(x:UInt8):hexI x=if 48≤(x.toNat:Int)∧(x.toNat:Int)≤57 then (x.toNat:Int)-48 else if 97≤(x.toNat:Int)∧(x.toNat:Int)≤102 then (x.toNat:Int)-87 else -1:=by
 have h1:Lx.digit x=true ↔ 48≤(x.toNat:Int)∧(x.toNat:Int)≤57:=by rw[zeh];simp
 have h2:(97≤x && x≤102)=true ↔ 97≤(x.toNat:Int)∧(x.toNat:Int)≤102:=by simp[UInt8.le_iff_toNat_le];omega
 unfold hexI Lx.hexV
 by_cases a:Lx.digit x=true
 · have a':=h1.1 a
   simp only[a,if_true,if_pos a'];omega
 · have a':¬(48≤(x.toNat:Int)∧(x.toNat:Int)≤57):=fun h=>a (h1.2 h)
   rw[if_neg a,if_neg a']
   by_cases b:(97≤x && x≤102)=true
   · have b':=h2.1 b
     rw[if_pos b,if_pos b'];simp only;omega
   · have b':¬(97≤(x.toNat:Int)∧(x.toNat:Int)≤102):=fun h=>b (h2.2 h)
     rw[if_neg b,if_neg b']
theorem zfy{k:IntKind}{a b:Int}(h:a=b):Ending.returned (.int k a)=.returned (.int k b):=by rw[h]
theorem znh{p:UInt8→Bool}{l:List UInt8}{i:Nat}{x:UInt8}(hx:l[i]? = some x)(hp:p x=true):((l.drop i).takeWhile p).length=((l.drop (i+1)).takeWhile p).length+1:=by
 have hi:i<l.length:=(gi9.1 hx).1;rw[List.drop_eq_getElem_cons hi];have:l[i]=x:=(gi9.1 hx).2
 simp[this,hp]
theorem zng{p:UInt8→Bool}{l:List UInt8}{i:Nat}{x:UInt8}(hx:l[i]? = some x)(hp:p x=false):((l.drop i).takeWhile p).length=0:=by
 have hi:i<l.length:=(gi9.1 hx).1;rw[List.drop_eq_getElem_cons hi];have:l[i]=x:=(gi9.1 hx).2
 simp[this,hp]
theorem zqc{p:UInt8→Bool}{l:List UInt8}{i:Nat}(hi:l.length≤i):((l.drop i).takeWhile p).length=0:=by
 rw[List.drop_eq_nil_of_le hi];simp
theorem zkp{p:UInt8→Bool}{l:List UInt8}{i:Nat}(hi:i≤l.length):i+((l.drop i).takeWhile p).length≤l.length:=by
 have:=(List.takeWhile_prefix p (l:=l.drop i)).length_le
 simp at this
 omega
def runP(letters:Bool):UInt8→Bool:=if letters then Lx.alnum else Lx.digit
theorem zb3(s:ByteArray)(i:Nat)(h:i<s.size):s.data.toList[i]? = some s[i]:=by
 rw[ge9 (by simpa using h)]
 rfl
theorem zqe(g:Nat)(s:ByteArray)(i:Nat)(letters:Bool)(w:World)(hc:w.cell? ⟨g,0,none⟩=some (.string s))(hi:i≤s.size)(hs:s.size≤8000):
 Calls Tryz.prog 126 #[.pointer (some ⟨g,0,none⟩),.int .i64 i,.bool letters] w fun e w'=>e=.returned (.int .i64 ((i+((s.data.toList.drop i).takeWhile (runP letters)).length:Nat):Int))∧w'=w:=by
 go_enter Tryz.func126, Tryz.ntmps126
 go_wp2_with fail
 go_loop [1] (fun v=>∃k:Nat,k≤s.size∧v=.int .i64 k∧Hid (k+((s.data.toList.drop k).takeWhile (runP letters)).length=i+((s.data.toList.drop i).takeWhile (runP letters)).length)) (fun v=>s.size-(intOf v).toNat)
 case atStart=>exact⟨i,hi,rfl,rfl⟩
 case round =>
  obtain⟨k,hk,rfl,HK⟩:=hrel
  by_cases hlt:k<s.size
  · have hx:=zb3 s k hlt
    have i0:(0:Int)≤(k:Int):=om;have i1:(k:Int)<(s.size:Int):=om;generalize hxx:s[k]=x at hx
    by_cases hp:runP letters x=true
    · have HST:=qh (znh hx hp)
      have hcase:Lx.digit x=true∨(Lx.digit x=false∧letters=true∧Lx.letter x=true):=by
       cases letters <;> simp[runP,Lx.alnum]at hp <;> cases hd:Lx.digit x <;> simp_all
      clear hx hp
      rcases hcase with hd|⟨hd,rfl,hl⟩
      all_goals
        go_wp2_with (first
         | (go_at_call 107;refine(ze7 _ _).mono ?_;rintro e w' ⟨rfl,rfl⟩)
         | (go_at_call 105;refine(zbr _ _).mono ?_;rintro e w' ⟨rfl,rfl⟩))
        go_round
        case rel=>exact⟨k+1,by omega,by go_num,by show _=_;rw[←HK.out,HST.out];omega⟩
        case measure=>simp[intOf];omega
    · have hp':runP letters x=false:=by simpa using hp
      have HST:=qh (zng hx hp')
      have hcase:Lx.digit x=false∧(letters=false∨(letters=true∧Lx.letter x=false)):=by
       cases letters <;> simp[runP,Lx.alnum]at hp' <;> simp_all
      clear hx hp hp';obtain⟨hd,rfl|⟨rfl,hl⟩⟩:=hcase
      all_goals
        go_wp2_with (first
         | (go_at_call 107;refine(ze7 _ _).mono ?_;rintro e w' ⟨rfl,rfl⟩)
         | (go_at_call 105;refine(zbr _ _).mono ?_;rintro e w' ⟨rfl,rfl⟩))
        go_ret;refine⟨zfy ?_,rfl⟩;rw[←HK.out,HST.out]
        simp
  · have HST:=qh (zqc (p:=runP letters) (l:=s.data.toList) (i:=k) (by simp;omega))
    have hge:decide ((k:Int)<(s.size:Int))=false:=by simp;omega
    go_wp2_with fail
    go_ret;refine⟨zfy ?_,rfl⟩;have h1:=HK.out;have h2:=HST.out;omega
theorem Only.refl(w:World)(g:Nat):Only w w g:=⟨World.grownBy.refl w _,rfl⟩
theorem Only.trans{a b c:World}{g:Nat}(h:Only a b g)(k:Only b c g):Only a c g :=
 ⟨⟨k.grown.os.trans h.grown.os,k.grown.tape.trans h.grown.tape,k.grown.output.trans h.grown.output,Nat.le_trans h.grown.size k.grown.size,fun i hi hne=>(k.grown.block i (Nat.lt_of_lt_of_le hi h.grown.size) hne).trans (h.grown.block i hi hne)⟩,k.size.trans h.size⟩
theorem Only.drewN{a b:World}{g:Nat}(h:Only a b g)(n:Nat):Only a (b.drewN n) g:=⟨⟨h.grown.os,h.grown.tape,h.grown.output,h.grown.size,h.grown.block⟩,h.size⟩
theorem Only.setCell{a b:World}{g:Nat}(h:Only a b g)(i:Nat)(u:Value):Only a (b.setCell ⟨g,i,none⟩ u) g :=
 h.trans ⟨⟨rfl,rfl,rfl,by simp[World.setCell],fun k _ hne=>Below.heap_setCell b ⟨g,i,none⟩ u k (fun e=>hne (by rw[e]))⟩,by simp[World.setCell]⟩
def scn(s:ByteArray)(i:Nat)(lv:Value):List Value:=[.string s,.int .i64 i,lv]
theorem scn0{w:World}{g:Nat}{s:ByteArray}{i:Nat}{lv:Value}(h:Blk w g 125 (scn s i lv)):w.cell? ⟨g,0,none⟩=some (.string s):=by rw[h.cell];rfl
theorem scn1{w:World}{g:Nat}{s:ByteArray}{i:Nat}{lv:Value}(h:Blk w g 125 (scn s i lv)):w.cell? ⟨g,1,none⟩=some (.int .i64 i):=by rw[h.cell];rfl
theorem scn2{w:World}{g:Nat}{s:ByteArray}{i:Nat}{lv:Value}(h:Blk w g 125 (scn s i lv)):w.cell? ⟨g,2,none⟩=some lv:=by rw[h.cell];rfl
theorem zft{w:World}{g:Nat}{s:ByteArray}{i j:Nat}{lv:Value}(h:Blk w g 125 (scn s i lv)):Blk (w.setCell ⟨g,1,none⟩ (.int .i64 j)) g 125 (scn s j lv):=h.set_ 1 _
theorem zm9{w:World}{g:Nat}{s:ByteArray}{i:Nat}{lv lv':Value}(h:Blk w g 125 (scn s i lv)):Blk (w.setCell ⟨g,2,none⟩ lv') g 125 (scn s i lv'):=h.set_ 2 _
theorem zag{l:List UInt8}{i:Nat}{x:UInt8}(hx:l[i]? = some x):l.drop i=x :: l.drop (i+1):=by
 have hi:i<l.length:=(gi9.1 hx).1;rw[List.drop_eq_getElem_cons hi,(gi9.1 hx).2]
theorem zjf{l:List UInt8}{i:Nat}{x:UInt8}(hx:l[i]? = some x)(hb:Lx.blank x=true):Lx.skip false (l.drop i)=Lx.skip false (l.drop (i+1)):=by
 rw[zag hx];simp[Lx.skip,hb]
theorem zm7{l:List UInt8}{i:Nat}{x:UInt8}(hx:l[i]? = some x)(hb:x=35):Lx.skip false (l.drop i)=Lx.skip true (l.drop i):=by
 subst hb;rw[zag hx];simp[Lx.skip,Lx.blank]
theorem zp5{l:List UInt8}{i:Nat}{x:UInt8}(hx:l[i]? = some x)(hb:x≠10):Lx.skip true (l.drop i)=Lx.skip true (l.drop (i+1)):=by
 rw[zag hx];simp[Lx.skip,hb]
theorem zm6{l:List UInt8}{i:Nat}{x:UInt8}(hx:l[i]? = some x)(hb:x=10):Lx.skip true (l.drop i)=Lx.skip false (l.drop i):=by
 subst hb;rw[zag hx];simp[Lx.skip,Lx.blank]
theorem zfq{l:List UInt8}{i:Nat}(h:l.length≤i)(c:Bool):Lx.skip c (l.drop i)=[]:=by
 rw[List.drop_eq_nil_of_le h];simp[Lx.skip]
theorem zki{l:List UInt8}{i:Nat}{x:UInt8}(hx:l[i]? = some x)(hb:Lx.blank x=false)(hc:x≠35):Lx.skip false (l.drop i)=l.drop i:=by
 rw[zag hx];simp[Lx.skip,hb,hc]
theorem za2{x k:UInt8}(h:x≠k):((x.toNat:Int) == (k.toNat:Int))=false:=by
 simp only[beq_eq_false_iff_ne,ne_eq];intro e;exact h (UInt8.toNat_inj.1 om)
theorem zro{x k:UInt8}(h:x≠k):((x.toNat:Int) != (k.toNat:Int))=true:=by rw[bne,za2 h];rfl
theorem zgw(l:List UInt8)(x:UInt8):decide (0≤Lib.indexByte l x)=l.contains x:=by
 rw[Bool.eq_iff_iff];simp only[decide_eq_true_eq,List.contains_iff_mem]
 induction l with
 | nil=>simp[Lib.indexByte]
 | cons c l ih =>
  have hge:=Lib.indexByte_ge l x;simp only[Lib.indexByte,List.mem_cons]
  by_cases hc:c=x
  · subst hc;simp
  · have hc':(c == x)=false:=by simpa using hc
    have hx:¬x=c:=fun e=>hc e.symm
    rw[hc']
    by_cases hm:Lib.indexByte l x=-1
    · have:¬x∈l:=fun h=>by have:=ih.2 h;omega
      simp[hm,hx,this]
    · have:x∈l:=ih.1 om
      have hm':(Lib.indexByte l x == -1)=false:=by simpa using hm
      simp only[hm',Bool.false_eq_true,if_false,this,or_true,iff_true];omega
theorem zir(x:UInt8):decide (0≤Lib.indexByte [32,9,10] x)=Lx.blank x:=by
 rw[zgw]
 unfold Lx.blank
 simp only[List.contains_cons,List.contains_nil,Bool.or_false,Bool.or_assoc]
theorem zh9(g:Nat)(s:ByteArray)(i:Nat)(lv:Value)(w:World)(hb:Blk w g 125 (scn s i lv))(hi:i≤s.size)(hs:s.size≤8000):
 Calls Tryz.prog 78 #[.pointer (some ⟨g,0,none⟩)] w fun e w'=>e=.returned (.tuple #[])∧∃j:Nat,i≤j∧j≤s.size∧Blk w' g 125 (scn s j lv)∧Only w w' g∧s.data.toList.drop j=Lx.skip false (s.data.toList.drop i):=by
 go_enter Tryz.func78, Tryz.ntmps78
 go_wp2_with fail
 go_loopg [12] (s.size-i) (fun k _ wr=>∃j:Nat,i≤j∧j≤s.size∧k=s.size-j∧Blk wr g 125 (scn s j lv)∧Only w wr g∧Hid (Lx.skip false (s.data.toList.drop j)=Lx.skip false (s.data.toList.drop i)))
 case atStart=>exact⟨i,lr,hi,rfl,hb,Only.refl _ _,rfl⟩
 case round =>
  obtain⟨j,hij,hj,hgk,hbr,hor,HK⟩:=hrel;have HGK:=qh hgk;clear hgk;have c0:=scn0 hbr;have c1:=scn1 hbr
  by_cases hlt:j<s.size
  · have i0:(0:Int)≤(j:Int):=om
    have i1:(j:Int)<(s.size:Int):=om;have hx:=zb3 s j hlt;generalize hxx:s[j]=x at hx;have HX:=qh hx;clear hx
    go_wp2_with fail
    go_quiet (fail)
    have hb1:=hbr.drewN nq;have ho1:=hor.drewN nq;have c0':=scn0 hb1;have c1':=scn1 hb1;clear hbr hor c0 c1;generalize wr.drewN nq=w1 at *
    by_cases hbl:Lx.blank x=true
    · have hib:=zir x
      rw[hbl]at hib;have hsk:=zjf HX.out hbl;have HSK:=qh hsk;clear hsk hbl;have hib':decide (0≤Lib.indexByte [32,9,10] x)=true:=hib;clear hib
      go_wp2_with fail
      go_quiet ((go_at_call 104;exact Calls.quiet_of_same (zax _ _ _)))
      have hb2:=hb1.drewN nq;have ho2:=ho1.drewN nq;have c0:=scn0 hb2;have c1:=scn1 hb2;have f1:=hb2.frozen 1;clear hb1 ho1 c0' c1';generalize w1.drewN nq=w2 at *
      go_wp2_with fail
      go_roundg (s.size-(j+1))
      case measure=>have:=HGK.out;omega
      case rel=>exact⟨j+1,by omega,by omega,rfl,zft hb2,ho2.setCell _ _,HSK.out.symm.trans HK.out⟩
    · have hbl':Lx.blank x=false:=by simpa using hbl
      have hib:=zir x;rw[hbl']at hib;have hib':decide (0≤Lib.indexByte [32,9,10] x)=false:=hib;have HBL:=qh hbl';clear hib hbl hbl'
      by_cases h35:x=35
      · have H35:=qh h35
        have hq:((x.toNat:Int) == 35)=true:=by rw[h35];rfl
        have HSK:=qh (zm7 HX.out h35);clear h35
        go_wp2_with fail
        go_quiet ((go_at_call 104;exact Calls.quiet_of_same (zax _ _ _)))
        have hb2:=hb1.drewN nq;have ho2:=ho1.drewN nq;have c0:=scn0 hb2;have c1:=scn1 hb2;clear hb1 ho1 c0' c1';generalize w1.drewN nq=w2 at *
        go_wp2_with fail
        go_quiet (fail)
        have hb3:=hb2.drewN nq;have ho3:=ho2.drewN nq;clear hb2 ho2 c0 c1;generalize w2.drewN nq=w3 at *
        go_wp2_with fail
        go_loopg [63] (s.size-j) (fun k _ wq=>∃m:Nat,j≤m∧m≤s.size∧k=s.size-m∧Blk wq g 125 (scn s m lv)∧Only w wq g∧Hid (Lx.skip true (s.data.toList.drop m)=Lx.skip false (s.data.toList.drop i)))
        case atStart=>exact⟨j,lr,hj,rfl,hb3,ho3,HSK.out.symm.trans HK.out⟩
        case round =>
         clear hb3 ho3;obtain⟨m,hjm,hm,hgm,hbm,hom,HM⟩:=hrel;have HGM:=qh hgm;clear hgm;have c0:=scn0 hbm;have c1:=scn1 hbm
         by_cases hml:m<s.size
         · have k0:(0:Int)≤(m:Int):=om
           have k1:(m:Int)<(s.size:Int):=om;have hy:=zb3 s m hml;generalize hyy:s[m]=y at hy;have HY:=qh hy;clear hy
           by_cases h10:y=10
           · have hq2:((y.toNat:Int) != 10)=false:=by rw[h10];rfl
             have hne:j<m:=by
              rcases Nat.lt_or_ge j m with h|h
              · exact h
              · exfalso
                have:j=m:=om;subst this;have:=HX.out.symm.trans HY.out
                injection this with this
                rw[H35.out,h10]at this
                cases this
             have HSO:=qh (zm6 HY.out h10);clear h10
             go_wp2_with fail
             go_quiet (fail)
             have hb4:=hbm.drewN nq;have ho4:=hom.drewN nq;clear hbm hom c0 c1;generalize wr.drewN nq=w4 at *
             go_wp2_with fail
             go_roundg (s.size-m)
             case measure=>have:=HGK.out;omega
             case rel=>exact⟨m,by omega,by omega,rfl,hb4,ho4,HSO.out.symm.trans HM.out⟩
           · have hq2:((y.toNat:Int) != 10)=true:=zro (k:=10) h10
             have HSI:=qh (zp5 HY.out h10);clear h10
             go_wp2_with fail
             go_quiet (fail)
             have hb4:=hbm.drewN nq;have ho4:=hom.drewN nq;clear hbm hom c0 c1;generalize wr.drewN nq=w4 at *;have c0:=scn0 hb4;have c1:=scn1 hb4;have f1:=hb4.frozen 1
             go_wp2_with fail
             go_roundg (s.size-(m+1))
             case measure=>have:=HGM.out;omega
             case rel=>exact⟨m+1,by omega,by omega,rfl,zft hb4,ho4.setCell _ _,HSI.out.symm.trans HM.out⟩
         · have hge:decide ((m:Int)<(s.size:Int))=false:=by simp;omega
           have HSE:=qh ((zfq (l:=s.data.toList) (i:=m) (by simp;omega) true).trans (zfq (l:=s.data.toList) (i:=m) (by simp;omega) false).symm)
           go_wp2_with fail
           go_quiet (fail)
           have hb4:=hbm.drewN nq;have ho4:=hom.drewN nq;clear hbm hom c0 c1;generalize wr.drewN nq=w4 at *
           go_wp2_with fail
           go_roundg (s.size-m)
           case measure=>have:=HGK.out;omega
           case rel=>exact⟨m,by omega,by omega,rfl,hb4,ho4,HSE.out.symm.trans HM.out⟩
      · have hq:((x.toNat:Int) == 35)=false:=za2 (k:=35) h35
        have HSK:=qh (zki HX.out HBL.out h35);clear h35
        go_wp2_with fail
        go_quiet ((go_at_call 104;exact Calls.quiet_of_same (zax _ _ _)))
        have hb2:=hb1.drewN nq;have ho2:=ho1.drewN nq;have c0:=scn0 hb2;have c1:=scn1 hb2;clear hb1 ho1 c0' c1';generalize w1.drewN nq=w2 at *
        go_wp2_with fail
        go_quiet (fail)
        have hb3:=hb2.drewN nq;have ho3:=ho2.drewN nq;clear hb2 ho2 c0 c1;generalize w2.drewN nq=w3 at *
        go_wp2_with fail
        exact bodyPost_ret (results_none rfl _ _ _) rfl ⟨rfl,j,hij,hj,hb3,ho3,HSK.out.symm.trans HK.out⟩
  · have HSK:=qh (zfq (l:=s.data.toList) (i:=j) (by simp;omega) false)
    have hge:decide ((j:Int)<(s.size:Int))=false:=by simp;omega
    go_wp2_with fail
    go_quiet (fail)
    have hb1:=hbr.drewN nq;have ho1:=hor.drewN nq;clear hbr hor c0 c1;generalize wr.drewN nq=w1 at *
    go_wp2_with fail
    have hdn:s.data.toList.drop j=[]:=List.drop_eq_nil_of_le (by simp;omega)
    first
     | exact bodyPost_end (results_none rfl _ _ _) rfl ⟨rfl,j,hij,hj,hb1,ho1,hdn.trans (HSK.out.symm.trans HK.out)⟩
     | exact bodyPost_ret (results_none rfl _ _ _) rfl ⟨rfl,j,hij,hj,hb1,ho1,hdn.trans (HSK.out.symm.trans HK.out)⟩
end Go.Proofs.YtafjkbbiaopemaaGreatDoor
