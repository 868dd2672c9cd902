/- Part of the proof. -/
import Derived.Deep.LoopGhost
import Derived.Laws.BytesString
import Derived.Deep.RegionLaw
import Derived.StillTailTactics
import Derived.Test.YtafjkbbiaopemaaGreatDoorPrx03
set_option linter.all false
set_option maxRecDepth 100000
set_option maxHeartbeats 0
namespace Go.Proofs.YtafjkbbiaopemaaGreatDoor
open Go.RowKit
section
theorem zf5{r:List UInt8}{m:UInt8}{k:Nat}(he:Lx.esc r=some (m,k)):2≤k∧k≤r.length+1:=by
 unfold Lx.esc at he
 cases r with
 | nil=>cases he
 | cons d r =>
  simp only[]at he
  split at he
  · injection he with he;injection he with _ he;simp;omega
  · split at he
    · injection he with he;injection he with _ he;simp;omega
    · split at he
      · split at he
        · split at he
          · injection he with he;injection he with _ he;simp;omega
          · cases he
        · cases he
      · cases he
theorem zka:∀(f:Nat) (r acc:List UInt8),r.length<f→∀g,r.length<g→Lx.text f r acc=Lx.text g r acc:=by
 intro f
 induction f with
 | zero=>intro r acc h;omega
 | succ f ih =>
  intro r acc h g hg;obtain⟨g,rfl⟩:∃g',g=g'+1:=⟨g-1,by omega⟩
  cases r with
  | nil=>rfl
  | cons c r =>
   simp only[List.length_cons]at h hg
   unfold Lx.text
   simp only[]
   split
   · rfl
   · split
     · cases he:Lx.esc r with
       | none=>rfl
       | some p =>
        obtain⟨m,k⟩:=p;simp only[];have hk:=zf5 he;exact ih _ _ (by simp;omega) g (by simp;omega)
     · split
       · rfl
       · exact ih _ _ om g om
theorem zjl(l:List UInt8):∀s:ByteArray,((l.map fun c=>((c.toNat:Nat):Int)).foldl (fun r n=>r.push (UInt8.ofNat n.toNat)) s).data=s.data++l.toArray:=by
 induction l with
 | nil=>intro s;simp
 | cons c l ih =>
  intro s;rw[List.map_cons,List.foldl_cons,ih]
  apply Array.toList_inj.1
  simp[ByteArray.push]
theorem zqb{P:Program}{w:World}{src dst e:TypeId}{A:Option Addr}{n c:Nat}{l:List UInt8}(hs:P.underlying src=some (.slice e))(he:P.underlying e=some (.int .u8))(hd:P.underlying dst=some .string)(hr:Rd w A n (u8s l)):
 (convert src dst (.slice A n c)).run P w=.ok (.string (bytesOf l)) w:=by
 rw[run_convert_bytes_string w src dst e A n c hs he hd];have hl:=hr.len
 rcases Nat.eq_zero_or_pos n with h0|h0
 · subst h0
   have:l=[]:=List.eq_nil_of_length_eq_zero hl;subst this
   cases A with
   | none=>simp[Conv.bytesToString,bytesOf];rfl
   | some a =>
    have:=run_bytesToString (P:=P) w a 0 c [] (by simp[loadCells,loadCellsFrom]);rw[this]
    rfl
 · obtain⟨b,off,rfl,hb,hc⟩:=hr.2 h0
   have hload:=run_loadCells_list (P:=P) w ⟨b,off,none⟩ (u8s l) (fun j v hv=>by rw[Addr.add_mid];exact hc j v hv);rw[zfd,hl]at hload;have:=run_bytesToString (P:=P) w ⟨b,off,none⟩ n c (l.map fun c=>((c.toNat:Nat):Int)) (by rw[hload];simp[u8s,u8]);rw[this]
   congr 2
   apply ByteArray.ext
   rw[zjl]
   simp[bytesOf]
section
variable{P:Program}{w:World}{ops:Array Oper}{rest:List Oper}{o:Oper}{a:Act}{K:Act→World→Prop}{Q:Exit→Act→World→Prop}
theorem wp_str(src dst:TypeId)(x:Operand)(ho:o.op=.convert src dst x)(e:TypeId)(hs:P.underlying src=some (.slice e))(he:P.underlying e=some (.int .u8))(hd:P.underlying dst=some .string)
 (A:Option Addr) (n c:Nat) (hx:a.eval x=.slice A n c) (l:List UInt8) (hr:Rd w A n (u8s l)) (h:K (a.put o.dst (.string (bytesOf l))) w):o.wp P a w K Q:=by
 refine zch (v:=.string (bytesOf l)) ?_ h
 unfold execOp
 simp only[ho,hx,Sem.run_bind,zqb hs he hd hr,Sem.run_pure,Result.andThen_ok]
theorem zb2(hgd:o.guard=none)(src dst:TypeId)(x:Operand)(ho:o.op=.convert src dst x)(e:TypeId)(hs:P.underlying src=some (.slice e))(he:P.underlying e=some (.int .u8))(hd:P.underlying dst=some .string)
 (A:Option Addr) (n c:Nat) (hx:a.eval x=.slice A n c) (l:List UInt8) (hr:Rd w A n (u8s l)) (h:wpList P ops Q rest (a.put o.dst (.string (bytesOf l))) w):wpList P ops Q (o :: rest) a w :=
 zcl hgd fun _ hK=>wp_str src dst x ho e hs he hd A n c hx l hr (hK _ _ h)
end
theorem zpr(c:UInt8):(c<32 || c>126)=(decide ((c.toNat:Int)<32)|| decide (126<(c.toNat:Int))):=by
 rw[Bool.eq_iff_iff];simp[UInt8.lt_iff_toNat_lt];omega
theorem zhv{c:UInt8}(h:(c<32 || c>126)=true):decide ((c.toNat:Int)<32)=true∨(decide ((c.toNat:Int)<32)=false∧decide ((126:Int)<(c.toNat:Int))=true):=by
 rw[zpr]at h
 revert h
 cases decide ((c.toNat:Int)<32) <;> cases decide ((126:Int)<(c.toNat:Int)) <;> simp
theorem zmb{c:UInt8}(h:(c<32 || c>126)=false):decide ((c.toNat:Int)<32)=false∧decide ((126:Int)<(c.toNat:Int))=false:=by
 rw[zpr]at h
 revert h
 cases decide ((c.toNat:Int)<32) <;> cases decide ((126:Int)<(c.toNat:Int)) <;> simp
theorem zmk(B g:Nat)(s:ByteArray)(i j:Nat)(ts:List Lx.Tok)(k:Nat)(t:List UInt8)(m:Nat)(w:World){J:Int}(hJ:(.int .i64 J:Value)=.int .i64 (j:Int))(h:St w B g s i ts)(hn:ts.length≤100000):
 Calls Tryz.prog 80 #[.pointer (some ⟨g,0,none⟩),.int .i64 k,.string (bytesOf t),.int .i64 m,.int .i64 J] w fun e w' =>
  e=.returned (.tuple #[])∧St w' B g s j (ts++[⟨k,t,m,i⟩])∧Below B w w':=by
 rw[hJ];exact ze8 B g s i j ts k t m w h hn
def TextPost(B g:Nat)(s:ByteArray)(i:Nat)(ts:List Lx.Tok)(w:World)(R:Sum (List UInt8) (List UInt8 × List UInt8))(e:Ending)(w':World):Prop :=
 match R with
 | .inl x=>e=.returned (.int .i64 ((s.size-x.length:Nat):Int))∧Below B w w'
 | .inr (b,x)=>e=.returned (.int .i64 (-1))∧St w' B g s (s.size-x.length) (ts++[⟨4,b,0,i⟩])∧Below B w w'
theorem St.lt{w:World}{B g:Nat}{s:ByteArray}{i:Nat}{ts:List Lx.Tok}(h:St w B g s i ts):g<w.heap.size:=by
 obtain⟨⟨A,c,h1,h2⟩,hle⟩:=h;exact h1.lt
theorem eU8b:ElemIs Tryz.prog 5 1 1:=ElemIs.of (z:=.int .u8 0) kr rfl om
theorem zjb{l:List UInt8}{m:Nat}{acc:List UInt8}(h:l[m]? = some 34):Lx.text (l.drop m).length.succ (l.drop m) acc=.inr (acc,l.drop (m+1)):=by
 rw[zag h];rfl
theorem zgc{l:List UInt8}{m:Nat}{acc:List UInt8}(h:l[m]? = some 92)(he:escN (l.drop (m+1))=0):Lx.text (l.drop m).length.succ (l.drop m) acc=.inl (l.drop m):=by
 have:Lx.esc (l.drop (m+1))=none:=by
  unfold escN at he
  cases hq:Lx.esc (l.drop (m+1))with
  | none=>rfl
  | some p =>
   exfalso
   obtain⟨x,k⟩:=p;rw[hq]at he;simp only[]at he;have:=zf5 hq;omega
 rw[zag h]
 unfold Lx.text
 simp[this]
theorem zmv{l:List UInt8}{m:Nat}{acc:List UInt8}(h:l[m]? = some 92)(he:escN (l.drop (m+1))≠0):Lx.text (l.drop m).length.succ (l.drop m) acc=Lx.text (l.drop (m+escN (l.drop (m+1)))).length.succ (l.drop (m+escN (l.drop (m+1)))) (acc++[escB (l.drop (m+1))]):=by
 cases hq:Lx.esc (l.drop (m+1))with
 | none=>exact absurd (by unfold escN;rw[hq]) he
 | some p =>
  obtain⟨x,k⟩:=p;have h1:escN (l.drop (m+1))=k:=by unfold escN;rw[hq]
  have h2:escB (l.drop (m+1))=x:=by unfold escB;rw[hq]
  have hk:=zf5 hq;rw[h1,h2];have hm:m<l.length:=(gi9.1 h).1
  conv=>lhs;rw[zag h];unfold Lx.text
  simp only[hq];rw[show((92:UInt8) == 34)=false from rfl,show((92:UInt8) == 92)=true from rfl];simp only[Bool.false_eq_true,if_false,if_true];rw[←zag h,List.drop_drop];exact zka _ _ _ (by simp;omega) _ om
theorem zmx{l:List UInt8}{m:Nat}{acc:List UInt8}{c:UInt8}(h:l[m]? = some c)(h1:c≠34)(h2:c≠92)(h3:(c<32 || c>126)=true):Lx.text (l.drop m).length.succ (l.drop m) acc=.inl (l.drop m):=by
 have e1:(c == 34)=false:=by simpa using h1
 have e2:(c == 92)=false:=by simpa using h2
 rw[zag h]
 unfold Lx.text
 simp only[e1,e2,h3]
 rfl
theorem zjc{l:List UInt8}{m:Nat}{acc:List UInt8}{c:UInt8}(h:l[m]? = some c)(h1:c≠34)(h2:c≠92)(h3:(c<32 || c>126)=false):Lx.text (l.drop m).length.succ (l.drop m) acc=Lx.text (l.drop (m+1)).length.succ (l.drop (m+1)) (acc++[c]):=by
 have e1:(c == 34)=false:=by simpa using h1
 have e2:(c == 92)=false:=by simpa using h2
 conv=>lhs;rw[zag h];unfold Lx.text
 simp only[e1,e2,h3]
 rfl
theorem zmw{l:List UInt8}{m:Nat}{acc:List UInt8}(h:l.length≤m):Lx.text (l.drop m).length.succ (l.drop m) acc=.inl []:=by
 rw[List.drop_eq_nil_of_le h];rfl
theorem zh2(B g:Nat)(s:ByteArray)(i:Nat)(ts:List Lx.Tok)(w:World)(h:St w B g s i ts)(hn:ts.length≤100000)(hi:i<s.size)(hs:s.size≤8000)(R:Sum (List UInt8) (List UInt8 × List UInt8))
 (hR:R=Lx.text (s.data.toList.drop (i+1)).length.succ (s.data.toList.drop (i+1)) []):
 Calls Tryz.prog 109 #[.pointer (some ⟨g,0,none⟩)] w (TextPost B g s i ts w R):=by
 have HR:=qh hR;clear hR;have c1:=h.c1
 go_enter Tryz.func109, Tryz.ntmps109
 go_wp2_with fail
 go_loopg [3,4] (s.size-(i+1)) (fun k o q wr=>∃(m:Nat) (acc:List UInt8) (A:Option Addr) (c:Nat),i+1≤m∧m≤s.size∧k=s.size-m∧q=.int .i64 m∧o=.slice A acc.length c∧acc.length≤m ∧
   wr.ownsRow w.heap.size 5 1 (.slice A acc.length c) acc.length (u8s acc)∧Below w.heap.size w wr∧Hid (R=Lx.text (s.data.toList.drop m).length.succ (s.data.toList.drop m) acc))
 case atStart=>exact⟨i+1,[],none,0,lr,by omega,rfl,by go_num,rfl,by simp,World.ownsRow_nil _ _ _ _,Below.refl _ _,HR.out⟩
 case round =>
  obtain⟨m,acc,A,c,him,hm,hgk,rfl,rfl,hacc,hown,hBr,HT⟩:=hrel;have HGK:=qh hgk;clear hgk;have hst:St wr B g s i ts:=h.below hBr (fun k _ hk=>hk);have hBB:Below B w wr:=hBr.mono (Nat.le_trans h.le (Nat.le_of_lt h.lt));have c0:=hst.c0
  by_cases hlt:m<s.size
  · have hx:=zb3 s m hlt
    have i0:(0:Int)≤(m:Int):=om;have i1:(m:Int)<(s.size:Int):=om;generalize hxx:s[m]=x at hx;have HX:=qh hx;clear hx
    by_cases h34:x=34
    · have e1:((x.toNat:Int) == 34)=true:=by rw[h34];rfl
      have HTQ:=qh (HT.out.trans (zjb (by have:=HX.out;rw[h34]at this;exact this)));clear h34
      go_wp2_with (first
       | (refine zb2 rfl 83 9 (.tmp 36) rfl 5 Tryz.underlying83 Tryz.underlying5 Tryz.underlying9 A acc.length c rr acc (Rd.of_own hown) ?_)
       | (go_at_call 80;refine(zmk B g s i (m+1) ts 4 acc 0 _ (by go_num) hst hn).mono ?_;rintro e w2 ⟨rfl,h2,hB2⟩))
      refine bodyPost_ret (results_tmp rfl _ _ _) rfl ?_
      unfold TextPost
      rw[HTQ.out];refine⟨rfl,?_,hBB.trans hB2⟩;rw[show s.size-(s.data.toList.drop (m+1)).length=m+1 from by simp;omega];exact h2
    · have e1:((x.toNat:Int) == 34)=false:=za2 (k:=34) h34
      have H34:=qh h34;clear h34;have hdm:s.size-(s.data.toList.drop m).length=m:=by simp;omega
      have HDM:=qh hdm;clear hdm
      by_cases h92:x=92
      · have e2:((x.toNat:Int) == 92)=true:=by rw[h92];rfl
        have HX92:Hid (s.data.toList[m]? = some 92):=by have:=HX.out;rw[h92]at this;exact this
        clear h92;have hesc:=zj0 g s m (s.data.toList.drop (m+1)) wr c0 hlt hs rfl;have HTB:=fun he=>qh (HT.out.trans (zgc HX92.out he))
        have HTO:=fun he=>qh (HT.out.trans (zmv HX92.out he))
        have hel:escN (s.data.toList.drop (m+1))≤(s.data.toList.drop (m+1)).length+1∧escN (s.data.toList.drop (m+1))≤8001:=by
         cases hq:Lx.esc (s.data.toList.drop (m+1))with
         | none=>unfold escN;rw[hq];simp
         | some p =>
          obtain⟨a,b⟩:=p;have:=zf5 hq;have hl:(s.data.toList.drop (m+1)).length≤8000:=by simp;omega
          unfold escN
          rw[hq];simp only[];omega
        have hel2:m+escN (s.data.toList.drop (m+1))≤s.size:=by
         have:=hel.1
         simp at this
         omega
        clear hel;generalize hEB:escB (s.data.toList.drop (m+1))=EB at *;generalize hEN:escN (s.data.toList.drop (m+1))=EN at *;have HESC:=qh hesc;clear hesc hEB hEN
        by_cases hz:EN=0
        · subst hz
          have HTQ:=HTB rfl;clear HTB HTO
          go_wp2_with (go_at_call 128;refine HESC.out.mono ?_;rintro e w2 ⟨rfl,q2,rfl⟩)
          refine bodyPost_ret (results_tmp rfl _ _ _) rfl ?_
          unfold TextPost
          rw[HTQ.out];simp only[];rw[HDM.out];exact⟨rfl,below_drewN hBB _⟩
        · have HTQ:=HTO hz
          have e3:((EN:Int) == 0)=false:=by simpa using hz
          have hpos:0<EN:=om;clear HTB HTO hz
          go_wp2_with (first
           | (go_at_call 128;refine HESC.out.mono ?_;rintro e w2 ⟨rfl,q2,rfl⟩)
           | (at_builtin;refine zay rfl (.tmp 53) (.tmp 55) _ rfl w.heap.size 5 1 1 Tryz.underlying83 eU8b (.slice A acc.length c) acc.length (u8s acc) rr (by exact hown.alloc _) (some ⟨wr.heap.size,0,none⟩) 1 1 [.int .u8 EB.toNat] rr (by exact RdS.new wr _ [.int .u8 EB.toNat] 1 rfl) (by simp[Value.oneCell']) om om (by exact Nat.le_trans hBr.size sy) ?_))
          intro A2 c2 w3 hown2 hc2 hg2 hat2;have hB3:Below w.heap.size w w3:=(below_drewN (hBr.alloc hBr.size _) q2).grown hg2 (Nat.le_trans hBr.size sy) (fun k hk=>(hown.lt k hk).1)
          have hown3:w3.ownsRow w.heap.size 5 1 (.slice A2 (acc++[EB]).length c2) (acc++[EB]).length (u8s (acc++[EB])):=by
           rw[za9,la9];exact hown2
          clear hg2 hat2 hown2 hown hBr hst hBB c0
          go_wp2_with fail
          go_roundg (s.size-(m+EN))
          case measure=>have:=HGK.out;omega
          case rel=>exact⟨m+EN,acc++[EB],A2,c2,by omega,by omega,rfl,by go_num,by rw[la9];rfl,by rw[la9];simp;omega,hown3,hB3,HTQ.out⟩
      · have e2:((x.toNat:Int) == 92)=false:=za2 (k:=92) h92
        have H92:=qh h92;clear h92
        by_cases hct:(x<32 || x>126)=true
        · have HTQ:=qh (HT.out.trans (zmx HX.out H34.out H92.out hct))
          have hcase:=zhv hct;clear hct
          rcases hcase with a1|⟨a1,a2⟩
          all_goals
            go_wp2_with fail
            refine bodyPost_ret (results_tmp rfl _ _ _) rfl ?_
            unfold TextPost
            rw[HTQ.out];simp only[];rw[HDM.out];exact⟨rfl,hBB⟩
        · have hct':(x<32 || x>126)=false:=by simpa using hct
          have HTQ:=qh (HT.out.trans (zjc HX.out H34.out H92.out hct'));obtain⟨a1,a2⟩:=zmb hct';clear hct hct'
          go_wp2_with (at_builtin;refine zay rfl (.tmp 26) (.tmp 28) _ rfl w.heap.size 5 1 1 Tryz.underlying83 eU8b (.slice A acc.length c) acc.length (u8s acc) rr (by exact hown.alloc _) (some ⟨wr.heap.size,0,none⟩) 1 1 [.int .u8 x.toNat] rr (by exact RdS.new wr _ [.int .u8 x.toNat] 1 rfl) (by simp[Value.oneCell']) om om (by exact Nat.le_trans hBr.size sy) ?_)
          intro A2 c2 w3 hown2 hc2 hg2 hat2;have hB3:Below w.heap.size w w3:=(hBr.alloc hBr.size _).grown hg2 (Nat.le_trans hBr.size sy) (fun k hk=>(hown.lt k hk).1)
          have hown3:w3.ownsRow w.heap.size 5 1 (.slice A2 (acc++[x]).length c2) (acc++[x]).length (u8s (acc++[x])):=by
           rw[za9,la9];exact hown2
          clear hg2 hat2 hown2 hown hBr hst hBB c0
          go_wp2_with fail
          go_roundg (s.size-(m+1))
          case measure=>have:=HGK.out;omega
          case rel=>exact⟨m+1,acc++[x],A2,c2,by omega,by omega,rfl,by go_num,by rw[la9];rfl,by rw[la9];simp;omega,hown3,hB3,HTQ.out⟩
  · have hge:s.size≤m:=om
    have HTQ:=qh (HT.out.trans (zmw (by simpa using hge)))
    go_wp2_with fail
    refine bodyPost_ret (results_tmp rfl _ _ _) rfl ?_
    unfold TextPost
    rw[HTQ.out];exact⟨rfl,hBB⟩
end
theorem zbj(x:UInt8)(w:World):Calls Tryz.prog 105 #[.int .u8 x.toNat] w fun e w'=>e=.returned (.bool (Lx.letter x))∧w=w':=(zbr x w).mono fun _ _ ⟨a,b⟩=>⟨a,b.symm⟩
theorem zb0(x:UInt8)(w:World):Calls Tryz.prog 107 #[.int .u8 x.toNat] w fun e w'=>e=.returned (.bool (Lx.digit x))∧w=w':=(ze7 x w).mono fun _ _ ⟨a,b⟩=>⟨a,b.symm⟩
theorem ib_s(s:ByteArray)(x:UInt8)(w:World):Calls Tryz.prog 104 #[.string s,.int .u8 x.toNat] w fun e w'=>e=.returned (.int .i64 (Lib.indexByte s.data.toList x))∧w=w':=(zax s x w).mono fun _ _ ⟨a,b⟩=>⟨a,b.symm⟩
def TokPost(B g:Nat)(s:ByteArray)(i:Nat)(ts:List Lx.Tok)(w:World)(R:Sum (List UInt8) (Nat × List UInt8 × Nat × List UInt8))(e:Ending)(w':World):Prop :=
 match R with
 | .inl x=>e=.returned (.int .i64 ((s.size-x.length:Nat):Int))∧Below B w w'
 | .inr (k,t,m,x)=>e=.returned (.int .i64 (-1))∧St w' B g s (s.size-x.length) (ts++[⟨k,t,m,i⟩])∧Below B w w'
theorem zrd(x:UInt8):decide (0≤Lib.indexByte [59,44,123,125,40,41,61,62,64,33,43,45,42] x)=Lx.mark x:=by
 rw[zgw];rfl
theorem zfn(s:ByteArray)(i:Nat)(h:i≤s.size):s.size-(s.data.toList.drop i).length=i:=by simp;omega
theorem zi9{l:List UInt8}{i:Nat}{x:UInt8}(hx:l[i]? = some x)(hl:Lx.letter x=true):
 Lx.token (l.drop i)=if ((l.drop i).takeWhile Lx.alnum).length>16 then .inl (l.drop i) else .inr (if Lx.reserved ((l.drop i).takeWhile Lx.alnum) then 2 else 1,(l.drop i).takeWhile Lx.alnum,0,l.drop (i+((l.drop i).takeWhile Lx.alnum).length)):=by
 rw[←List.drop_drop,zag hx];simp only[Lx.token,hl,if_true]
theorem zj9{l:List UInt8}{i:Nat}{x:UInt8}(hx:l[i]? = some x)(hl:Lx.letter x=false)(hd:Lx.digit x=true):
 Lx.token (l.drop i)=if ((l.drop i).takeWhile Lx.digit).length>9 || (((l.drop i).takeWhile Lx.digit).length>1 && x == 48) then .inl (l.drop i)
   else if (l.drop (i+((l.drop i).takeWhile Lx.digit).length)).head?.any Lx.letter then .inl (l.drop (i+((l.drop i).takeWhile Lx.digit).length))
   else .inr (3,(l.drop i).takeWhile Lx.digit,Lx.numOf ((l.drop i).takeWhile Lx.digit),l.drop (i+((l.drop i).takeWhile Lx.digit).length)):=by
 rw[←List.drop_drop,zag hx];simp only[Lx.token,hl,hd,if_true,Bool.false_eq_true,if_false]
theorem zmo{l:List UInt8}{i:Nat}{x:UInt8}(hx:l[i]? = some x)(hq:x=34):
 Lx.token (l.drop i)=match Lx.text (l.drop (i+1)).length.succ (l.drop (i+1)) []with | .inl y=>.inl y | .inr (b,y)=>.inr (4,b,0,y):=by
 subst hq;rw[zag hx]
 rfl
theorem zmq{l:List UInt8}{i:Nat}{x:UInt8}(hx:l[i]? = some x)(hl:Lx.letter x=false)(hd:Lx.digit x=false)(hq:x≠34)(hm:Lx.mark x=true):
 Lx.token (l.drop i)=.inr (5,[x],0,l.drop (i+1)):=by
 have e:(x == 34)=false:=by simpa using hq
 rw[zag hx];simp only[Lx.token,hl,hd,e,hm,if_true,Bool.false_eq_true,if_false]
theorem zmp{l:List UInt8}{i:Nat}{x:UInt8}(hx:l[i]? = some x)(hl:Lx.letter x=false)(hd:Lx.digit x=false)(hq:x≠34)(hm:Lx.mark x=false):
 Lx.token (l.drop i)=.inl (l.drop i):=by
 have e:(x == 34)=false:=by simpa using hq
 rw[zag hx];simp only[Lx.token,hl,hd,e,hm,Bool.false_eq_true,if_false]
theorem zl2{l:List UInt8}{i:Nat}: (l.drop i).head? = l[i]?:=by
 rw[List.head?_drop]
theorem zj8(B g:Nat)(s:ByteArray)(i:Nat)(ts:List Lx.Tok)(w:World)(h:St w B g s i ts)(hn:ts.length≤100000)(hi:i<s.size)(hs:s.size≤8000)(R:Sum (List UInt8) (Nat × List UInt8 × Nat × List UInt8))
 (hR:R=Lx.token (s.data.toList.drop i)):
 Calls Tryz.prog 79 #[.pointer (some ⟨g,0,none⟩)] w (TokPost B g s i ts w R):=by
 have HR:=qh hR;clear hR;have c0:=h.c0;have c1:=h.c1;have hx:=zb3 s i hi;have i0:(0:Int)≤(i:Int):=om;have i1:(i:Int)<(s.size:Int):=om;generalize hxx:s[i]=x at hx;have HX:=qh hx;have HD:=qh (zfn s i om);clear hx
 by_cases hl:Lx.letter x=true
 · have hT:=HR.out.trans (zi9 HX.out hl)
   by_cases hb:((s.data.toList.drop i).takeWhile Lx.alnum).length>16
   · rw[if_pos hb]at hT
     have HT:=qh hT;clear hT
     go_enter Tryz.func79, Tryz.ntmps79
     go_wp2_with fail
     go_quiet (fail)
     have h1:=h.drewN nq;have hB1:Below B w (w.drewN nq):=below_drewN (Below.refl _ _) _;clear c0 c1 h;generalize w.drewN nq=w1 at *
     go_wp2_with (first
      | (go_at_call 105;refine(zbj _ _).mono ?_;rintro e w' ⟨rfl,rfl⟩)
      | (go_at_call 107;refine(zb0 _ _).mono ?_;rintro e w' ⟨rfl,rfl⟩)
      | (go_at_call 104;refine(ib_s _ _ _).mono ?_;rintro e w' ⟨rfl,rfl⟩)
      | (go_at_call 106;refine(zoo B g s i _ _ ts _ h1 om hs rfl rfl hb).mono ?_;rintro e w2 ⟨rfl,rfl⟩))
     refine bodyPost_ret (results_tmp rfl _ _ _) rfl ?_
     unfold TokPost
     rw[HT.out];simp only[];rw[HD.out];exact⟨rfl,hB1⟩
   · rw[if_neg hb]at hT
     have HT:=qh hT;have HE:=qh (zfn s (i+((s.data.toList.drop i).takeWhile Lx.alnum).length) (by have:=zkp (p:=Lx.alnum) (l:=s.data.toList) (i:=i) (by simp;omega);simpa using this));clear hT
     go_enter Tryz.func79, Tryz.ntmps79
     go_wp2_with fail
     go_quiet (fail)
     have h1:=h.drewN nq;have hB1:Below B w (w.drewN nq):=below_drewN (Below.refl _ _) _;clear c0 c1 h;generalize w.drewN nq=w1 at *
     go_wp2_with (first
      | (go_at_call 105;refine(zbj _ _).mono ?_;rintro e w' ⟨rfl,rfl⟩)
      | (go_at_call 107;refine(zb0 _ _).mono ?_;rintro e w' ⟨rfl,rfl⟩)
      | (go_at_call 104;refine(ib_s _ _ _).mono ?_;rintro e w' ⟨rfl,rfl⟩)
      | (go_at_call 106;refine(zq2 B g s i _ _ ts _ h1 hn om hs rfl rfl hb).mono ?_;rintro e w2 ⟨rfl,h2,hB2⟩))
     refine bodyPost_ret (results_tmp rfl _ _ _) rfl ?_
     unfold TokPost
     rw[HT.out];simp only[];rw[HE.out];exact⟨rfl,h2,hB1.trans hB2⟩
 · have hl':Lx.letter x=false:=by simpa using hl
   clear hl
   by_cases hd:Lx.digit x=true
   · have hT:=HR.out.trans (zj9 HX.out hl' hd)
     have hEl:i+((s.data.toList.drop i).takeWhile Lx.digit).length≤s.size:=by have:=zkp (p:=Lx.digit) (l:=s.data.toList) (i:=i) (by simp;omega);simpa using this
     have HE:=qh (zfn s (i+((s.data.toList.drop i).takeWhile Lx.digit).length) hEl)
     by_cases hb:((s.data.toList.drop i).takeWhile Lx.digit).length>9∨(((s.data.toList.drop i).takeWhile Lx.digit).length>1∧x=48)
     · rw[if_pos (by simpa using hb)]at hT
       have HT:=qh hT;clear hT hEl
       go_enter Tryz.func79, Tryz.ntmps79
       go_wp2_with fail
       go_quiet (fail)
       have h1:=h.drewN nq;have hB1:Below B w (w.drewN nq):=below_drewN (Below.refl _ _) _;clear c0 c1 h;generalize w.drewN nq=w1 at *
       go_wp2_with (first
        | (go_at_call 105;refine(zbj _ _).mono ?_;rintro e w' ⟨rfl,rfl⟩)
        | (go_at_call 107;refine(zb0 _ _).mono ?_;rintro e w' ⟨rfl,rfl⟩)
        | (go_at_call 104;refine(ib_s _ _ _).mono ?_;rintro e w' ⟨rfl,rfl⟩)
        | (go_at_call 108;refine(zjp B g s i _ _ ts _ h1 hi hs rfl rfl x HX.out hd hb).mono ?_;rintro e w2 ⟨rfl,q2,rfl⟩))
       refine bodyPost_ret (results_tmp rfl _ _ _) rfl ?_
       unfold TokPost
       rw[HT.out];simp only[];rw[HD.out];exact⟨rfl,below_drewN hB1 _⟩
     · rw[if_neg (by simpa using hb),zl2]at hT
       cases hy:s.data.toList[i+((s.data.toList.drop i).takeWhile Lx.digit).length]? with
       | none =>
        rw[hy]at hT;have HT:Hid (R=.inr (3,(s.data.toList.drop i).takeWhile Lx.digit,Lx.numOf ((s.data.toList.drop i).takeWhile Lx.digit),s.data.toList.drop (i+((s.data.toList.drop i).takeWhile Lx.digit).length))):=by show R=_;simpa using hT
        have hyy:∀y,s.data.toList[i+((s.data.toList.drop i).takeWhile Lx.digit).length]? = some y→Lx.letter y=false:=fun y hh=>by rw[hy]at hh;cases hh
        have HYY:=qh hyy;clear hT hEl hy hyy
        go_enter Tryz.func79, Tryz.ntmps79
        go_wp2_with fail
        go_quiet (fail)
        have h1:=h.drewN nq;have hB1:Below B w (w.drewN nq):=below_drewN (Below.refl _ _) _;clear c0 c1 h;generalize w.drewN nq=w1 at *
        go_wp2_with (first
         | (go_at_call 105;refine(zbj _ _).mono ?_;rintro e w' ⟨rfl,rfl⟩)
         | (go_at_call 107;refine(zb0 _ _).mono ?_;rintro e w' ⟨rfl,rfl⟩)
         | (go_at_call 104;refine(ib_s _ _ _).mono ?_;rintro e w' ⟨rfl,rfl⟩)
         | (go_at_call 108;refine(zgr B g s i _ _ ts _ h1 hn hi hs rfl rfl x HX.out hd hb HYY.out).mono ?_;rintro e w2 ⟨rfl,h2,hB2⟩))
        refine bodyPost_ret (results_tmp rfl _ _ _) rfl ?_
        unfold TokPost
        rw[HT.out];simp only[];rw[HE.out];exact⟨rfl,h2,hB1.trans hB2⟩
       | some y =>
        rw[hy]at hT;have HY:=qh hy
        by_cases hly:Lx.letter y=true
        · have HT:Hid (R=.inl (s.data.toList.drop (i+((s.data.toList.drop i).takeWhile Lx.digit).length))):=by show R=_;simpa[hly] using hT
          clear hT hEl hy
          go_enter Tryz.func79, Tryz.ntmps79
          go_wp2_with fail
          go_quiet (fail)
          have h1:=h.drewN nq;have hB1:Below B w (w.drewN nq):=below_drewN (Below.refl _ _) _;clear c0 c1 h;generalize w.drewN nq=w1 at *
          go_wp2_with (first
           | (go_at_call 105;refine(zbj _ _).mono ?_;rintro e w' ⟨rfl,rfl⟩)
           | (go_at_call 107;refine(zb0 _ _).mono ?_;rintro e w' ⟨rfl,rfl⟩)
           | (go_at_call 104;refine(ib_s _ _ _).mono ?_;rintro e w' ⟨rfl,rfl⟩)
           | (go_at_call 108;refine(zjo B g s i _ _ ts _ h1 hi hs rfl rfl x HX.out hd hb y HY.out hly).mono ?_;rintro e w2 ⟨rfl,q2,rfl⟩))
          refine bodyPost_ret (results_tmp rfl _ _ _) rfl ?_
          unfold TokPost
          rw[HT.out];simp only[];rw[HE.out];exact⟨rfl,below_drewN hB1 _⟩
        · have hly':Lx.letter y=false:=by simpa using hly
          have HT:Hid (R=.inr (3,(s.data.toList.drop i).takeWhile Lx.digit,Lx.numOf ((s.data.toList.drop i).takeWhile Lx.digit),s.data.toList.drop (i+((s.data.toList.drop i).takeWhile Lx.digit).length))):=by show R=_;simpa[hly'] using hT
          have hyy:∀y,s.data.toList[i+((s.data.toList.drop i).takeWhile Lx.digit).length]? = some y→Lx.letter y=false:=fun y hh=>by rw[hy]at hh;injection hh with hh;rw[←hh];exact hly'
          have HYY:=qh hyy;clear hT hEl hy hyy hly hly'
          go_enter Tryz.func79, Tryz.ntmps79
          go_wp2_with fail
          go_quiet (fail)
          have h1:=h.drewN nq;have hB1:Below B w (w.drewN nq):=below_drewN (Below.refl _ _) _;clear c0 c1 h;generalize w.drewN nq=w1 at *
          go_wp2_with (first
           | (go_at_call 105;refine(zbj _ _).mono ?_;rintro e w' ⟨rfl,rfl⟩)
           | (go_at_call 107;refine(zb0 _ _).mono ?_;rintro e w' ⟨rfl,rfl⟩)
           | (go_at_call 104;refine(ib_s _ _ _).mono ?_;rintro e w' ⟨rfl,rfl⟩)
           | (go_at_call 108;refine(zgr B g s i _ _ ts _ h1 hn hi hs rfl rfl x HX.out hd hb HYY.out).mono ?_;rintro e w2 ⟨rfl,h2,hB2⟩))
          refine bodyPost_ret (results_tmp rfl _ _ _) rfl ?_
          unfold TokPost
          rw[HT.out];simp only[];rw[HE.out];exact⟨rfl,h2,hB1.trans hB2⟩
   · have hd':Lx.digit x=false:=by simpa using hd
     clear hd
     by_cases h34:x=34
     · have hT:=HR.out.trans (zmo HX.out h34)
       have e1:((x.toNat:Int) == 34)=true:=by rw[h34];rfl
       clear h34
       cases hq:Lx.text (s.data.toList.drop (i+1)).length.succ (s.data.toList.drop (i+1)) []with
       | inl y =>
        rw[hq]at hT;have HT:=qh hT;have HQ:=qh hq;clear hT hq
        go_enter Tryz.func79, Tryz.ntmps79
        go_wp2_with fail
        go_quiet (fail)
        have h1:=h.drewN nq;have hB1:Below B w (w.drewN nq):=below_drewN (Below.refl _ _) _;clear c0 c1 h;generalize w.drewN nq=w1 at *
        go_wp2_with (first
         | (go_at_call 105;refine(zbj _ _).mono ?_;rintro e w' ⟨rfl,rfl⟩)
         | (go_at_call 107;refine(zb0 _ _).mono ?_;rintro e w' ⟨rfl,rfl⟩)
         | (go_at_call 104;refine(ib_s _ _ _).mono ?_;rintro e w' ⟨rfl,rfl⟩)
         | (go_at_call 109;refine(zh2 B g s i ts _ h1 hn hi hs _ HQ.out.symm).mono ?_;rintro e w2 ⟨rfl,hB2⟩))
        refine bodyPost_ret (results_tmp rfl _ _ _) rfl ?_
        unfold TokPost
        rw[HT.out];simp only[];exact⟨rfl,hB1.trans hB2⟩
       | inr p =>
        obtain⟨b,y⟩:=p;rw[hq]at hT;have HT:=qh hT;have HQ:=qh hq;clear hT hq
        go_enter Tryz.func79, Tryz.ntmps79
        go_wp2_with fail
        go_quiet (fail)
        have h1:=h.drewN nq;have hB1:Below B w (w.drewN nq):=below_drewN (Below.refl _ _) _;clear c0 c1 h;generalize w.drewN nq=w1 at *
        go_wp2_with (first
         | (go_at_call 105;refine(zbj _ _).mono ?_;rintro e w' ⟨rfl,rfl⟩)
         | (go_at_call 107;refine(zb0 _ _).mono ?_;rintro e w' ⟨rfl,rfl⟩)
         | (go_at_call 104;refine(ib_s _ _ _).mono ?_;rintro e w' ⟨rfl,rfl⟩)
         | (go_at_call 109;refine(zh2 B g s i ts _ h1 hn hi hs _ HQ.out.symm).mono ?_;rintro e w2 ⟨rfl,h2,hB2⟩))
        refine bodyPost_ret (results_tmp rfl _ _ _) rfl ?_
        unfold TokPost
        rw[HT.out];simp only[];exact⟨rfl,h2,hB1.trans hB2⟩
     · have e1:((x.toNat:Int) == 34)=false:=za2 (k:=34) h34
       have hib:=zrd x
       by_cases hm:Lx.mark x=true
       · have HT:=qh (HR.out.trans (zmq HX.out hl' hd' h34 hm))
         have HE:=qh (zfn s (i+1) om);rw[hm]at hib;have hib':decide (0≤Lib.indexByte [59,44,123,125,40,41,61,62,64,33,43,45,42] x)=true:=hib
         have hext:s.extract i (i+1)=bytesOf [x]:=by
          rw[zd2,zag HX.out,Nat.add_sub_cancel_left]
          rfl
         clear hib hm h34
         go_enter Tryz.func79, Tryz.ntmps79
         go_wp2_with fail
         go_quiet (fail)
         have h1:=h.drewN nq;have hB1:Below B w (w.drewN nq):=below_drewN (Below.refl _ _) _;clear c0 c1 h;generalize w.drewN nq=w1 at *
         go_wp2_with (first
          | (go_at_call 105;refine(zbj _ _).mono ?_;rintro e w' ⟨rfl,rfl⟩)
          | (go_at_call 107;refine(zb0 _ _).mono ?_;rintro e w' ⟨rfl,rfl⟩)
          | (go_at_call 104;refine(ib_s _ _ _).mono ?_;rintro e w' ⟨rfl,rfl⟩))
         have c0:=h1.c0;have c1:=h1.c1;have i2:(i:Int)+1≤(s.size:Int):=om;have h1d:St w1.drew B g s i ts:=h1.drewN 1;have hB1d:Below B w w1.drew:=hB1.drew;have k0:(0:Int)≤(i:Int)+1:=om;have k1:(i:Int)≤(i:Int)+1:=om;have k2:((i:Int)+1).toNat=i+1:=om;have k3:IntKind.i64.wrap ((i:Int)+1)=(i:Int)+1:=IntWalk.i64_in _ om
         go_still_tail 20,kr
         go_wp2_with (go_at_call 80;refine(zmk B g s i (i+1) ts 5 [x] 0 _ (by go_num) h1d hn).mono ?_;rintro e w2 ⟨rfl,h2,hB2⟩)
         clear k0 k1 k2 k3;refine bodyPost_ret (results_tmp rfl _ _ _) rfl ?_
         unfold TokPost
         rw[HT.out];simp only[];rw[HE.out];exact⟨rfl,h2,hB1d.trans hB2⟩
       · have hm':Lx.mark x=false:=by simpa using hm
         have HT:=qh (HR.out.trans (zmp HX.out hl' hd' h34 hm'));rw[hm']at hib;have hib':decide (0≤Lib.indexByte [59,44,123,125,40,41,61,62,64,33,43,45,42] x)=false:=hib;clear hib hm hm' h34
         go_enter Tryz.func79, Tryz.ntmps79
         go_wp2_with fail
         go_quiet (fail)
         have h1:=h.drewN nq;have hB1:Below B w (w.drewN nq):=below_drewN (Below.refl _ _) _;clear c0 c1 h;generalize w.drewN nq=w1 at *;have c0:=h1.c0;have c1:=h1.c1
         go_wp2_with (first
          | (go_at_call 105;refine(zbj _ _).mono ?_;rintro e w' ⟨rfl,rfl⟩)
          | (go_at_call 107;refine(zb0 _ _).mono ?_;rintro e w' ⟨rfl,rfl⟩)
          | (go_at_call 104;refine(ib_s _ _ _).mono ?_;rintro e w' ⟨rfl,rfl⟩))
         refine bodyPost_ret (results_tmp rfl _ _ _) rfl ?_
         unfold TokPost
         rw[HT.out];simp only[];rw[HD.out];exact⟨rfl,hB1⟩
end Go.Proofs.YtafjkbbiaopemaaGreatDoor
namespace Go.Proofs.YtafjkbbiaopemaaGreatDoor.Lx
open Go.RowKit
theorem skip_len(c:Bool)(r:List UInt8):(skip c r).length≤r.length:=by
 induction r generalizing c with
 | nil=>cases c <;> simp[skip]
 | cons x r ih =>
  unfold skip
  split
  · split
    · exact Nat.le_trans (ih _) (by simp)
    · exact Nat.le_trans (ih _) (by simp)
  · split
    · exact Nat.le_trans (ih _) (by simp)
    · split
      · exact Nat.le_trans (ih _) (by simp)
      · exact Nat.le_refl _
theorem skip_f(x:UInt8)(r:List UInt8):skip false (x :: r)=if blank x=true then skip false r else if (x == 35)=true then skip true r else x :: r:=by simp[skip]
theorem zpb(x:UInt8)(r:List UInt8):skip true (x :: r)=if (x == 10)=true then skip false r else skip true r:=by simp[skip]
theorem skip_skip(c:Bool)(r:List UInt8):skip false (skip c r)=skip c r:=by
 induction r generalizing c with
 | nil=>cases c <;> simp[skip]
 | cons x r ih =>
  cases c
  · by_cases hb:blank x=true
    · rw[skip_f,if_pos hb]
      exact ih _
    · by_cases h:(x == 35)=true
      · rw[skip_f,if_neg hb,if_pos h]
        exact ih _
      · rw[skip_f,if_neg hb,if_neg h,skip_f,if_neg hb,if_neg h]
  · by_cases h:(x == 10)=true
    · rw[zpb,if_pos h]
      exact ih _
    · rw[zpb,if_neg h]
      exact ih _
theorem zmu:∀(f:Nat) (r acc:List UInt8) (b x:List UInt8),text f r acc=.inr (b,x)→x.length<r.length:=by
 intro f
 induction f with
 | zero=>intro r acc b x h;cases h
 | succ f ih =>
  intro r acc b x h
  unfold text at h
  cases r with
  | nil=>cases h
  | cons c r =>
   simp only[]at h
   split at h
   · injection h with h;injection h with _ h;subst h;simp
   · split at h
     · split at h
       · cases h
       · have:=ih _ _ _ _ h
         simp at this ⊢
         omega
     · split at h
       · cases h
       · have:=ih _ _ _ _ h
         simp
         omega
theorem token_len{c:UInt8}{r:List UInt8}{k:Nat}{t:List UInt8}{m:Nat}{x:List UInt8}(h:token (c :: r)=.inr (k,t,m,x)):x.length<(c :: r).length:=by
 unfold token at h
 simp only[]at h
 split at h
 · rename_i hl
   split at h
   · cases h
   · injection h with h;injection h with _ h;injection h with _ h;injection h with _ h
     subst h;have:0<((c :: r).takeWhile alnum).length:=by simp[alnum,hl]
     rw[List.length_drop]
     simp at this ⊢
     omega
 · split at h
   · rename_i hl hd
     split at h
     · cases h
     · split at h
       · cases h
       · injection h with h;injection h with _ h;injection h with _ h;injection h with _ h
         subst h;have:0<((c :: r).takeWhile digit).length:=by simp[hd]
         rw[List.length_drop]
         simp at this ⊢
         omega
   · split at h
     · split at h
       · cases h
       · rename_i b y hy
         injection h with h;injection h with _ h;injection h with _ h;injection h with _ h
         subst h;have:=zmu _ _ _ _ _ hy
         simp
         omega
     · split at h
       · injection h with h;injection h with _ h;injection h with _ h;injection h with _ h
         subst h
         simp
       · cases h
theorem scan_fuel(n:Nat):∀(f:Nat) (r:List UInt8) (acc:List Tok),r.length<f→∀g,r.length<g→scanF n f r acc=scanF n g r acc:=by
 intro f
 induction f with
 | zero=>intro r acc h;omega
 | succ f ih =>
  intro r acc h g hg;obtain⟨g,rfl⟩:∃g',g=g'+1:=⟨g-1,by omega⟩
  unfold scanF
  have hl:=skip_len false r
  cases hs:skip false r with
  | nil=>rfl
  | cons c r1 =>
   rw[hs]at hl;simp only[]
   cases ht:token (c :: r1)with
   | inl x=>rfl
   | inr p =>
    obtain⟨k,t,m,x⟩:=p;have:=token_len ht;exact ih _ _ (by omega) g (by omega)
theorem scan_skip(n f:Nat)(r:List UInt8)(acc:List Tok):scanF n (f+1) r acc=scanF n (f+1) (skip false r) acc:=by
 unfold scanF
 rw[skip_skip]
theorem scan_end(n f:Nat)(acc:List Tok):scanF n (f+1) [] acc=.inr (acc++[⟨6,[],0,n⟩]):=by
 unfold scanF
 rfl
theorem scan_step(n f:Nat)(c:UInt8)(r:List UInt8)(acc:List Tok)(hs:skip false (c :: r)=c :: r):
 scanF n (f+1) (c :: r) acc=match token (c :: r)with | .inl x=>.inl x | .inr (k,t,m,x)=>scanF n f x (acc++[⟨k,t,m,n-(c :: r).length⟩]):=by
 conv=>lhs;unfold scanF
 rw[hs] <;> rfl
theorem zg9:∀(f:Nat) (r acc:List UInt8) (b x:List UInt8),text f r acc=.inr (b,x)→∃q,x=r.drop q:=by
 intro f
 induction f with
 | zero=>intro r acc b x h;cases h
 | succ f ih =>
  intro r acc b x h
  unfold text at h
  cases r with
  | nil=>cases h
  | cons c r =>
   simp only[]at h
   split at h
   · injection h with h;injection h with _ h;exact⟨1,by rw[←h];rfl⟩
   · split at h
     · split at h
       · cases h
       · obtain⟨q,hq⟩:=ih _ _ _ _ h
         exact⟨_,by rw[hq,List.drop_drop]⟩
     · split at h
       · cases h
       · obtain⟨q,hq⟩:=ih _ _ _ _ h
         exact⟨q+1,by rw[hq];rfl⟩
theorem token_suffix{r:List UInt8}{k:Nat}{t:List UInt8}{m:Nat}{x:List UInt8}(h:token r=.inr (k,t,m,x)):∃q,x=r.drop q:=by
 cases r with
 | nil=>cases h
 | cons c r =>
  unfold token at h
  simp only[]at h
  split at h
  · split at h
    · cases h
    · injection h with h;injection h with _ h;injection h with _ h;injection h with _ h
      exact⟨_,h.symm⟩
  · split at h
    · split at h
      · cases h
      · split at h
        · cases h
        · injection h with h;injection h with _ h;injection h with _ h;injection h with _ h
          exact⟨_,h.symm⟩
    · split at h
      · split at h
        · cases h
        · rename_i b y hy
          injection h with h;injection h with _ h;injection h with _ h;injection h with _ h
          obtain⟨q,hq⟩:=zg9 _ _ _ _ _ hy;exact⟨q+1,by rw[←h,hq];rfl⟩
      · split at h
        · injection h with h;injection h with _ h;injection h with _ h;injection h with _ h
          exact⟨1,by rw[←h];rfl⟩
        · cases h
end Go.Proofs.YtafjkbbiaopemaaGreatDoor.Lx
namespace Go.Proofs.YtafjkbbiaopemaaGreatDoor
open Go.RowKit
theorem zbm{P:Program}{w:World}{fn:Func}{p u:Tmp}{ty:TypeId}(h:fn.results=#[.tmp u,.cell p ty])(tmps:Array Value)(g:Nat)(t:TypeId)(cs:List Value)(hp:tmps.getD p undef=.pointer (some ⟨g,0,none⟩))
 (hB:Blk w g t cs) (d:TypeDesc) (hu:P.underlying ty=some d) (hd:d.isRow=true) (hi:(P.info? ty).map (·.size)=some cs.length):
 (results fn tmps).run P w=.ok (.tuple #[tmps.getD u undef,.agg cs.toArray]) w:=by
 have hp':tmps[p]?.getD undef=.pointer (some ⟨g,0,none⟩):=by rw[←hp];simp
 simp[results,h,hp',asAddr,run_loadVar_mid w g 0 ty cs d hB.range hu hd hi]
def faultV(p:Nat × Nat):List Value:=[.int .i64 p.1,.int .i64 p.2]
def ScanPost(w:World)(r:(Nat × Nat) × List Lx.Tok)(e:Ending)(w':World):Prop :=
 ∃A c,e=.returned (.tuple #[.slice A r.2.length c,.agg (faultV r.1).toArray])∧r.2.length≤c∧w'.ownsRow w.heap.size 72 4 (.slice A r.2.length c) r.2.length (toksCells r.2)∧Below w.heap.size w w'
theorem hd48:(Tryz.prog.info? 29).map (·.size)=some 2:=by kernel_rfl
theorem znd(s:ByteArray)(w:World)(hs:8000<s.size):Calls Tryz.prog 45 #[.string s] w (ScanPost w (Lx.scan s.data.toList)):=by
 have hsc:Lx.scan s.data.toList=((2,0),[]):=by unfold Lx.scan;rw[if_pos (by simpa using hs)]
 rw[hsc];have e1:decide ((8000:Int)<(s.size:Int))=true:=by simp;omega
 go_enter Tryz.func45, Tryz.ntmps45
 go_wp2_with fail
 exact bodyPost_ret (zbm rfl _ w.heap.size 29 [.int .i64 2,.int .i64 0] rfl (Blk.new w _ _) _ Tryz.underlying29 rfl hd48) rfl
   ⟨none,0,rfl,lr,World.ownsRow_nil _ _ _ _,(Below.refl _ _).alloc lr _⟩
structure Mid(w:World)(s:ByteArray)(R:Sum (List UInt8) (List Lx.Tok))(j:Nat)(ts:List Lx.Tok)(wr:World):Prop where
 st:St wr (w.heap.size+1) (w.heap.size+1) s j ts
 ft:Blk wr w.heap.size 29 [.int .i64 0,.int .i64 0]
 bel:Below w.heap.size w wr
 le:j≤s.size
 few:ts.length≤j
 sk:Lx.skip false (s.data.toList.drop j)=s.data.toList.drop j
 res:R=Lx.scanF s.size (s.size-j+1) (s.data.toList.drop j) ts
theorem zq4{w wr:World}{s:ByteArray}{R:Sum (List UInt8) (List Lx.Tok)}{j:Nat}{ts:List Lx.Tok}(h:Mid w s R j ts wr)(hj:j<s.size){x:List UInt8}(ht:Lx.token (s.data.toList.drop j)=.inl x):R=.inl x:=by
 have hx:=zb3 s j hj;have hc:=zag hx;have h1:=h.res;have hs:=h.sk;rw[hc]at h1 hs ht;rw[Lx.scan_step _ _ _ _ _ hs,ht]at h1;exact h1
theorem zq3{w wr:World}{s:ByteArray}{R:Sum (List UInt8) (List Lx.Tok)}{j:Nat}{ts:List Lx.Tok}(h:Mid w s R j ts wr)(hj:s.size≤j):R=.inr (ts++[⟨6,[],0,s.size⟩]):=by
 have h1:=h.res;rw[List.drop_eq_nil_of_le (by simpa using hj),Lx.scan_end]at h1;exact h1
theorem zop{w wr:World}{s:ByteArray}{R:Sum (List UInt8) (List Lx.Tok)}{j:Nat}{ts:List Lx.Tok}(h:Mid w s R j ts wr)(hj:j<s.size){k m:Nat}{t x:List UInt8}(ht:Lx.token (s.data.toList.drop j)=.inr (k,t,m,x))
 (i':Nat) (hi:i'≤s.size) (hx:x=s.data.toList.drop i') (j':Nat) (hj':j'≤s.size) (hd:s.data.toList.drop j'=Lx.skip false (s.data.toList.drop i')):
 j<i'∧R=Lx.scanF s.size (s.size-j'+1) (s.data.toList.drop j') (ts++[⟨k,t,m,j⟩]):=by
 have hxx:=zb3 s j hj;have hc:=zag hxx;have h1:=h.res;have hs:=h.sk
 have hlen:x.length<(s.data.toList.drop j).length:=by
  rw[hc]at ht ⊢;exact Lx.token_len ht
 have hlj:(s.data.toList.drop j).length=s.size-j:=by simp
 have hli:x.length=s.size-i':=by rw[hx];simp
 have hlt:j<i':=om;refine⟨hlt,?_⟩;rw[hc]at h1 hs ht;rw[Lx.scan_step _ _ _ _ _ hs,ht]at h1;simp only[]at h1;rw[←hc,hlj,show s.size-(s.size-j)=j from by omega]at h1;rw[h1,hx];have hf:(s.data.toList.drop i').length<s.size-j:=by rw[←hx];omega
 obtain⟨f,hfe⟩:∃f,s.size-j=f+1:=⟨s.size-j-1,by omega⟩;rw[hfe,Lx.scan_skip,←hd];have hl2:(s.data.toList.drop j').length≤(s.data.toList.drop i').length:=by rw[hd];exact Lx.skip_len _ _
 exact Lx.scan_fuel _ _ _ _ om _ sy
theorem znc{s:ByteArray}(hs:s.size≤8000){x:List UInt8}(h:Lx.scanF s.size (s.size+1) s.data.toList []=.inl x):Lx.scan s.data.toList=((9,s.size-x.length),[]):=by
 have e:s.data.toList.length=s.size:=by simp
 unfold Lx.scan
 rw[if_neg om,e,h]
theorem znb{s:ByteArray}(hs:s.size≤8000){ts:List Lx.Tok}(h:Lx.scanF s.size (s.size+1) s.data.toList []=.inr ts):Lx.scan s.data.toList=((0,0),ts):=by
 have e:s.data.toList.length=s.size:=by simp
 unfold Lx.scan
 rw[if_neg om,e,h]
theorem St.of_skip{w w':World}{B g:Nat}{s:ByteArray}{i j:Nat}{ts:List Lx.Tok}{lv:Value}(h:St w B g s i ts)(hl:w.cell? ⟨g,2,none⟩=some lv)(hb:Blk w' g 125 (scn s j lv))(ho:Only w w' g):St w' B g s j ts:=by
 obtain⟨⟨A,c,h1,h2⟩,hle⟩:=h;rw[scn2 h1]at hl
 injection hl with hl
 subst hl;exact⟨⟨A,c,hb,h2.kept ho.grown (.inr (zbq h2 h1 (by decide)))⟩,hle⟩
theorem zke{s:ByteArray}{j:Nat}{k m:Nat}{t x:List UInt8}(ht:Lx.token (s.data.toList.drop j)=.inr (k,t,m,x)):x=s.data.toList.drop (s.size-x.length):=by
 obtain⟨q,hq⟩:=Lx.token_suffix ht;rw[List.drop_drop]at hq;have hl:x.length=s.size-(j+q):=by rw[hq];simp
 rcases Nat.lt_or_ge (j+q) s.size with h|h
 · rw[show s.size-x.length=j+q from by omega]
   exact hq
 · rw[List.drop_eq_nil_of_le (by simpa using h)]at hq
   subst hq;rw[List.drop_eq_nil_of_le sy]
theorem zp4(B g:Nat)(s:ByteArray)(i:Nat)(ts:List Lx.Tok)(w:World)(h:St w B g s i ts)(hi:i≤s.size)(hs:s.size≤8000):
 Calls Tryz.prog 78 #[.pointer (some ⟨g,0,none⟩)] w fun e w' =>
  e=.returned (.tuple #[])∧∃j,i≤j∧j≤s.size∧s.data.toList.drop j=Lx.skip false (s.data.toList.drop i)∧St w' B g s j ts∧Only w w' g:=by
 obtain⟨⟨A3,c3,hb3,hown3⟩,hle3⟩:=id h;refine(zh9 g s i _ _ hb3 hi hs).mono ?_;rintro e w3 ⟨rfl,j',hj0',hj',hb4,ho4,hd4⟩;exact⟨rfl,j',hj0',hj',hd4,h.of_skip (scn2 hb3) hb4 ho4,ho4⟩
theorem zjg(s:ByteArray)(w:World)(hs:s.size≤8000):Calls Tryz.prog 45 #[.string s] w (ScanPost w (Lx.scan s.data.toList)):=by
 obtain⟨R,hR⟩:=ex9 (Lx.scanF s.size (s.size+1) s.data.toList []);have HR:=qh hR;clear hR;have e1:decide ((8000:Int)<(s.size:Int))=false:=by simp;omega
 have hb0:Blk ((w.alloc (.cells #[.int .i64 0,.int .i64 0] 29)).alloc (.cells #[.string s,.int .i64 0,.slice none 0 0] 125)) (w.heap.size+1) 125 (scn s 0 (.slice none 0 0)):=Blk.new' sy rfl
 go_enter Tryz.func45, Tryz.ntmps45
 go_wp2_with (go_at_call 78;refine(zh9 (w.heap.size+1) s 0 (.slice none 0 0) _ hb0 (Nat.zero_le _) hs).mono ?_;rintro e w1 ⟨rfl,j,hj0,hj,hb1,ho1,hd1⟩)
 rw[List.drop_zero]at hd1
 have hM:Mid w s R j [] w1:=by
  refine⟨⟨⟨none,0,hb1,World.ownsRow_nil _ _ _ _⟩,lr⟩,ho1.blk ((Blk.new' rfl rfl).alloc _) om,ho1.below (((Below.refl _ _).alloc lr _).alloc sy _) om (by simp;omega),hj,Nat.zero_le _,by rw[hd1,Lx.skip_skip],?_⟩;rw[HR.out,Lx.scan_skip,←hd1];exact Lx.scan_fuel _ _ _ _ (by simp;omega) _ sy
 have HM:=qh hM;clear hM hb1 ho1 hd1 hb0
 go_loopg [5] (s.size-j) (fun k _ wr=>∃(j:Nat) (ts:List Lx.Tok),k=s.size-j∧Mid w s R j ts wr)
 case atStart=>exact⟨j,[],rfl,HM.out⟩
 case round =>
  clear HM hj hj0;obtain⟨j,ts,hgk,hM⟩:=hrel;have HGK:=qh hgk;have HM:=qh hM;have c1:=hM.st.c1;have HC1:=qh c1;have hle:=hM.le;have hfew:=hM.few;clear hgk
  by_cases hlt:j<s.size
  · have i1:(j:Int)<(s.size:Int):=om
    have htok:=zj8 (w.heap.size+1) (w.heap.size+1) s j ts wr hM.st om hlt hs _ rfl
    cases ht:Lx.token (s.data.toList.drop j)with
    | inl x =>
     rw[ht]at htok;have HTOK:=qh htok;have HB:=qh (zq4 hM hlt ht);have ft:=hM.ft;clear htok ht hM;generalize hX:s.size-x.length=X at *;have HFT:=qh ft;have HBEL:=qh HM.out.bel;have hX8:X≤8000:=om;clear HM c1 ft;have hcc:∀w2,Blk w2 w.heap.size 29 [.int .i64 0,.int .i64 0]→w2.cell? ⟨w.heap.size,0,none⟩=some (.int .i64 0)∧w2.cell? ⟨w.heap.size,1,none⟩=some (.int .i64 0):=fun w2 hb=>⟨by rw[hb.cell];rfl,by rw[hb.cell];rfl⟩
     have HCC:=qh hcc;clear hcc;have c1:=HC1.out
     go_wp2_with (go_at_call 79;refine HTOK.out.mono ?_;rintro e w2 ⟨rfl,hB2⟩;have hf2:Blk w2 w.heap.size 29 [.int .i64 0,.int .i64 0]:=HFT.out.below hB2 om;obtain⟨d0,d1⟩:=HCC.out _ hf2;have f0:=hf2.frozen 0;have f1:=hf2.frozen 1)
     have hsc:=znc hs (HR.out.symm.trans HB.out);rw[hX]at hsc;have hB3:Below w.heap.size w w2:=HBEL.out.trans (hB2.mono om);have hb3:=(hf2.set_ 0 (.int .i64 9)).set_ 1 (.int .i64 X);refine bodyPost_ret (zbm rfl _ w.heap.size 29 [.int .i64 9,.int .i64 X] rfl hb3 _ Tryz.underlying29 rfl hd48) rfl ?_;rw[hsc];exact⟨none,0,rfl,lr,World.ownsRow_nil _ _ _ _,(hB3.setCell lr _).setCell lr _⟩
    | inr p =>
     obtain⟨k,t,m,x⟩:=p;rw[ht]at htok;have HTOK:=qh htok;have hsuf:=zke ht;have hxl:s.size-x.length≤s.size:=om;have HT:=qh ht;have HSUF:=qh hsuf;clear htok ht hM hsuf;obtain⟨X,hX⟩:=ex9 (s.size-x.length);rw[←hX]at hxl;have HX:=qh hX;clear hX;have HSK:=qh (fun w2 (h:St w2 (w.heap.size+1) (w.heap.size+1) s X (ts++[⟨k,t,m,j⟩]))=>zp4 (w.heap.size+1) (w.heap.size+1) s X _ w2 h hxl hs)
     go_wp2_with (first
      | (go_at_call 79;refine HTOK.out.mono ?_;rintro e w2 ⟨rfl,h2,hB2⟩;have H2:=qh (by rw[HX.out];exact h2:St w2 (w.heap.size+1) (w.heap.size+1) s X (ts++[⟨k,t,m,j⟩]));clear h2)
      | (go_at_call 78;refine(HSK.out _ H2.out).mono ?_;rintro e w3 ⟨rfl,j',hj0',hj',hd4,h4,ho4⟩))
     have h2:=H2.out;obtain⟨hlt2,hres⟩:=zop HM.out hlt HT.out X hxl (by rw[HX.out];exact HSUF.out) j' hj' hd4;have hB4:Below (w.heap.size+1) wr w3:=ho4.below hB2 lr (Nat.le_of_lt h2.lt)
     have hM':Mid w s R j' (ts++[⟨k,t,m,j⟩]) w3 :=
      ⟨h4,HM.out.ft.below hB4 om,HM.out.bel.trans (hB4.mono om),hj',by rw[la9];simp;omega,by rw[hd4,Lx.skip_skip],hres⟩
     go_roundg (s.size-j')
     case measure=>have:=HGK.out;omega
     case rel=>exact⟨j',_,rfl,hM'⟩
  · have hge:s.size≤j:=om
    have HE:=qh (zq3 hM hge);have hje:j=s.size:=om;subst hje;have hadd:=ze8 (w.heap.size+1) (w.heap.size+1) s s.size s.size ts 6 [] 0 wr hM.st om;have HADD:=qh hadd;clear hadd hM
    go_wp2_with (go_at_call 80;refine HADD.out.mono ?_;rintro e w2 ⟨rfl,h2,hB2⟩;obtain⟨⟨A3,c3,hb3,hown3⟩,hle3⟩:=id h2;have c2:=scn2 hb3;have hf2:Blk w2 w.heap.size 29 [.int .i64 0,.int .i64 0]:=HM.out.ft.below hB2 om;have d0:w2.cell? ⟨w.heap.size,0,none⟩=some (.int .i64 0):=by rw[hf2.cell];rfl
                 have d1:w2.cell? ⟨w.heap.size,1,none⟩=some (.int .i64 0):=by rw[hf2.cell];rfl
                 have f0:=hf2.frozen 0
                 have f1:=hf2.frozen 1)
    have hsc:=znb hs (HR.out.symm.trans HE.out);refine bodyPost_ret (zbm rfl _ w.heap.size 29 [.int .i64 0,.int .i64 0] rfl ((hf2.set_ 0 _).set_ 1 _) _ Tryz.underlying29 rfl hd48) rfl ?_;rw[hsc];have hlen:(ts++[(⟨6,[],0,s.size⟩:Lx.Tok)]).length=ts.length+1:=by simp
    have ho:Only w2 ((w2.setCell ⟨w.heap.size,0,none⟩ (.int .i64 0)).setCell ⟨w.heap.size,1,none⟩ (.int .i64 0)) w.heap.size:=((Only.refl w2 w.heap.size).setCell 0 _).setCell 1 _;have hown4:=zon (hown3.kept ho.grown (.inr (zbq hown3 hf2 (by decide)))) (Nat.le_succ w.heap.size);refine⟨A3,c3,by simp only[hlen];rfl,?_,hown4,?_⟩
    · obtain⟨A',c',e',hc'⟩:=zc3 hown4
      injection e' with _ _ e'
      subst e';exact hc'
    · exact ho.below (HM.out.bel.trans (hB2.mono om)) lr (Nat.le_of_lt hf2.lt)
theorem zne(s:ByteArray)(w:World):Calls Tryz.prog 45 #[.string s] w (ScanPost w (Lx.scan s.data.toList)):=by
 by_cases h:s.size≤8000
 · exact zjg s w h
 · exact znd s w om
end Go.Proofs.YtafjkbbiaopemaaGreatDoor
