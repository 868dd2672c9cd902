/- Part of the proof. -/
import Derived.Test.YtafjkbbiaopemaaGreatDoorOpx05
set_option linter.all false
set_option maxRecDepth 100000
set_option maxHeartbeats 0
namespace Go.Proofs.YtafjkbbiaopemaaGreatDoor
open Go.RowKit
theorem ziv(x:UInt8)(w:World):Calls Tryz.prog 57 #[.int .u8 x.toNat] w fun e w'=>e=.returned (.bool (Lx.letter x))∧w'=w:=by
 go_enter Tryz.func57, Tryz.ntmps57
 go_wp2
 all_goals
   go_ret;refine⟨zcb ?_,rfl⟩;rw[zh2]
   simp[*]
   try omega
theorem zeh(x:UInt8)(w:World):Calls Tryz.prog 58 #[.int .u8 x.toNat] w fun e w'=>e=.returned (.bool (Lx.digit x))∧w'=w:=by
 go_enter Tryz.func58, Tryz.ntmps58
 go_wp2
 all_goals
   go_ret;refine⟨zcb ?_,rfl⟩;rw[zc2]
   simp[*]
   try omega
theorem zgl(s:ByteArray)(w:World):Calls Tryz.prog 59 #[.string s] w fun e w'=>e=.returned (.bool (Lx.reserved s.data.toList))∧w'=w:=by
 rw[←ByteArray.toList_eq]
 go_enter Tryz.func59, Tryz.ntmps59
 go_wp2
 all_goals first
  | (exfalso;simp_all;done)
  | (go_ret;refine⟨zcb ?_,rfl⟩;generalize s.toList=t at *
     unfold Lx.reserved Lx.words
     simp only[List.contains_cons,List.contains_nil,Bool.or_false]
     simp[*])
theorem zmv(x:UInt8)(w:World):Calls Tryz.prog 61 #[.int .u8 x.toNat] w fun e w'=>e=.returned (.bool (Lx.mark x))∧w'=w:=by
 rw[zsh];generalize (x.toNat:Int)=y
 go_enter Tryz.func61, Tryz.ntmps61
 go_wp2
 all_goals first
  | (exfalso;simp_all;done)
  | (go_ret;refine⟨zcb ?_,rfl⟩
     simp[*])
theorem zj6(x:UInt8)(w:World):Calls Tryz.prog 87 #[.int .u8 x.toNat] w fun e w'=>e=.returned (.int .i64 (hexI x))∧w'=w:=by
 have hx:=x.toNat_lt;have hd:=zc2 x
 by_cases a:48≤(x.toNat:Int)∧(x.toNat:Int)≤57
 · have hd':Lx.digit x=true:=by rw[hd];simp[a]
   have he:hexI x=(x.toNat:Int)-48:=by rw[zi8,if_pos a]
   have HE:=qh he;clear hd he
   go_enter Tryz.func87, Tryz.ntmps87
   go_wp2_with (go_at_call 58;refine(zeh _ _).mono ?_;rintro e w' ⟨rfl,rfl⟩)
   go_ret;refine⟨zeg ?_,rfl⟩;rw[HE.out]
 · have hd':Lx.digit x=false:=by rw[hd];simp;omega
   have he:hexI x=if 97≤(x.toNat:Int)∧(x.toNat:Int)≤102 then (x.toNat:Int)-87 else -1:=by rw[zi8,if_neg a]
   have HE:=qh he;clear hd he a
   go_enter Tryz.func87, Tryz.ntmps87
   go_wp2_with (go_at_call 58;refine(zeh _ _).mono ?_;rintro e w' ⟨rfl,rfl⟩)
   all_goals
     go_ret;refine⟨zeg ?_,rfl⟩;rw[HE.out]
     first|(rw[if_pos om];omega)| (rw[if_neg om])
theorem zc0{P:Program}{w:World}{fn:Func}{p u v:Tmp}{ty:TypeId}(h:fn.results=#[.cell p ty,.tmp u,.tmp v])(tmps:Array Value)(g:Nat)(t:TypeId)(cs:List Value)(hp:tmps.getD p undef=.pointer (some ⟨g,0,none⟩))
 (hB:Blk w g t cs) (d:TypeDesc) (hu:P.underlying ty=some d) (hd:d.isRow=true) (hi:(P.info? ty).map (·.size)=some cs.length):
 (results fn tmps).run P w=.ok (.tuple #[.agg cs.toArray,tmps.getD u undef,tmps.getD v undef]) w:=by
 have hp':tmps[p]?.getD undef=.pointer (some ⟨g,0,none⟩):=by rw[←hp];simp
 simp[results,h,hp',asAddr,run_loadVar_mid w g 0 ty cs d hB.range hu hd hi]
theorem hdTok:(Tryz.prog.info? 72).map (·.size)=some 4:=by kernel_rfl
theorem zkq{l:List UInt8}{m k:Nat}{acc:List UInt8}{x:UInt8}(h:l[m]? = some 92)(he:Lx.esc (l.drop (m+1))=some (x,k)):Lx.text (l.drop m).length.succ (l.drop m) acc=Lx.text (l.drop (m+k)).length.succ (l.drop (m+k)) (acc++[x]):=by
 have h1:escN (l.drop (m+1))=k:=by unfold escN;rw[he]
 have h2:escB (l.drop (m+1))=x:=by unfold escB;rw[he]
 have:=zfn he;have h3:=zjl (acc:=acc) h (by rw[h1];omega);rw[h1,h2]at h3;exact h3
theorem zid{l:List UInt8}{m:Nat}{acc:List UInt8}(h:l[m]? = some 92)(he:Lx.esc (l.drop (m+1))=none):Lx.text (l.drop m).length.succ (l.drop m) acc=.inl (l.drop m) :=
 zej h (by unfold escN;rw[he])
theorem zst{l:List UInt8}{m:Nat}(h:l.length≤m+1):Lx.esc (l.drop (m+1))=none:=by rw[List.drop_eq_nil_of_le h];rfl
theorem esc_q{l:List UInt8}{m:Nat}{y:UInt8}(h:l[m+1]? = some y)(hy:y=34∨y=92):Lx.esc (l.drop (m+1))=some (y,2):=by
 rw[zah h];rcases hy with rfl|rfl <;> rfl
theorem esc_n{l:List UInt8}{m:Nat}(h:l[m+1]? = some 110):Lx.esc (l.drop (m+1))=some (10,2):=by rw[zah h];rfl
theorem esc_x{l:List UInt8}{m a b:Nat}{x y:UInt8}(h:l[m+1]? = some 120)(hx:l[m+2]? = some x)(hy:l[m+3]? = some y)(ha:Lx.hexV x=some a)(hb:Lx.hexV y=some b):Lx.esc (l.drop (m+1))=some (UInt8.ofNat (16*a+b),4):=by
 rw[zah h,zah hx,zah hy]
 simp[Lx.esc,ha,hb]
theorem zoa{l:List UInt8}{m:Nat}{x y:UInt8}(h:l[m+1]? = some 120)(hx:l[m+2]? = some x)(hy:l[m+3]? = some y)(ha:Lx.hexV x=none∨Lx.hexV y=none):Lx.esc (l.drop (m+1))=none:=by
 rw[zah h,zah hx,zah hy]
 rcases ha with ha|ha
 · simp[Lx.esc,ha]
 · simp only[Lx.esc,ha]
   cases Lx.hexV x <;> simp
theorem zqb{l:List UInt8}{m:Nat}(h:l[m+1]? = some 120)(hl:l.length≤m+3):Lx.esc (l.drop (m+1))=none:=by
 rw[zah h];have:(l.drop (m+1+1)).length≤1:=by simp;omega
 match hq:l.drop (m+1+1)with
 | []=>rfl
 | [a]=>rfl
 | a :: b :: c=>rw[hq]at this;simp at this
theorem zqc{l:List UInt8}{m:Nat}{y:UInt8}(h:l[m+1]? = some y)(h1:y≠34)(h2:y≠92)(h3:y≠110)(h4:y≠120):Lx.esc (l.drop (m+1))=none:=by
 rw[zah h];simp[Lx.esc,h1,h2,h3,h4]
theorem za8{B n c:Nat}{w wr wr' w3:World}{A:Option Addr}{xs cs:List Value}{e t:TypeId}{sz:Nat}(hown:wr.ownsRow (B+1) e sz (.slice A n c) n xs)(hBr:Below B w wr')(hblk:Blk wr' B t cs)(hg:wr'.grownBy w3 (Value.ownBlock (.slice A n c))):
 Below B w w3∧Blk w3 B t cs :=
 ⟨hBr.grown hg (Nat.le_of_lt hblk.lt) (fun k hk=>Nat.le_of_succ_le (hown.lt k hk).1),hblk.grown hg (fun e=>by have:=(hown.lt B e.symm).1;omega)⟩
theorem zhp{x:UInt8}{a:Nat}(h:Lx.hexV x=some a):Hid (∀w,Calls Tryz.prog 87 #[.int .u8 x.toNat] w fun e w'=>e=.returned (.int .i64 a)∧w=w'):=fun w =>
 (zj6 x w).mono fun _ _ ⟨h1,h2⟩=>⟨by rw[h1,zd7 h],h2.symm⟩
theorem zhq{x:UInt8}(h:Lx.hexV x=none):Hid (∀w,Calls Tryz.prog 87 #[.int .u8 x.toNat] w fun e w'=>e=.returned (.int .i64 (-1))∧w=w'):=fun w =>
 (zj6 x w).mono fun _ _ ⟨h1,h2⟩=>⟨by rw[h1,zfi h],h2.symm⟩
def zTok:List Value:=[.int .i64 0,.string ByteArray.empty,.int .i64 0,.int .i64 0]
def RTextPost(s:ByteArray)(i:Nat)(w:World)(R:Sum (List UInt8) (List UInt8 × List UInt8))(e:Ending)(w':World):Prop :=
 match R with
 | .inl x=>e=.returned (.tuple #[.agg zTok.toArray,.int .i64 0,.int .i64 ((s.size-x.length:Nat):Int)])∧Below w.heap.size w w'
 | .inr (b,x)=>e=.returned (.tuple #[.agg (tokCells ⟨4,b,0,i⟩).toArray,.int .i64 ((s.size-x.length:Nat):Int),.int .i64 (-1)])∧Below w.heap.size w w'
theorem zcn{s:ByteArray}{i m:Nat}{w w':World}{R:Sum (List UInt8) (List UInt8 × List UInt8)}(h:R=.inl (s.data.toList.drop m))(hm:m≤s.size)(hB:Below w.heap.size w w'):
 RTextPost s i w R (.returned (.tuple #[.agg zTok.toArray,.int .i64 0,.int .i64 m])) w':=by
 subst h;exact⟨by rw[show s.size-(s.data.toList.drop m).length=m from by simp;omega],hB⟩
theorem zg8(s:ByteArray)(i:Nat)(w:World)(hi:i<s.size)(hs:s.size≤8000)(R:Sum (List UInt8) (List UInt8 × List UInt8))
 (hR:R=Lx.text (s.data.toList.drop (i+1)).length.succ (s.data.toList.drop (i+1)) []):
 Calls Tryz.prog 60 #[.string s,.int .i64 i] w (RTextPost s i w R):=by
 have HR:=qh hR;clear hR
 go_enter Tryz.func60, Tryz.ntmps60
 go_wp2_with fail
 go_loopg [7,8] (s.size-(i+1)) (fun k o q wr=>∃(m:Nat) (acc:List UInt8) (A:Option Addr) (c:Nat),i+1≤m∧m≤s.size∧k=s.size-m∧q=.int .i64 m∧o=.slice A acc.length c∧acc.length≤m ∧
   wr.ownsRow (w.heap.size+1) 5 1 (.slice A acc.length c) acc.length (u8s acc)∧Below w.heap.size w wr∧Blk wr w.heap.size 72 zTok∧Hid (R=Lx.text (s.data.toList.drop m).length.succ (s.data.toList.drop m) acc))
 case atStart=>exact⟨i+1,[],none,0,lr,by omega,rfl,by go_num,rfl,by simp,World.ownsRow_nil _ _ _ _,(Below.refl _ _).alloc lr _,Blk.new' rfl rfl,HR.out⟩
 case round =>
  obtain⟨m,acc,A,c,him,hm,hgk,rfl,rfl,hacc,hown,hBr,hblk,HT⟩:=hrel;have HGK:=qh hgk;have HBLK:=qh hblk;have hgl:w.heap.size<wr.heap.size:=hblk.lt;have d0:wr.cell? ⟨w.heap.size,0,none⟩=some (.int .i64 0):=by rw[hblk.cell];rfl
  have d1:wr.cell? ⟨w.heap.size,1,none⟩=some (.string ByteArray.empty):=by rw[hblk.cell];rfl
  have d2:wr.cell? ⟨w.heap.size,2,none⟩=some (.int .i64 0):=by rw[hblk.cell];rfl
  have d3:wr.cell? ⟨w.heap.size,3,none⟩=some (.int .i64 0):=by rw[hblk.cell];rfl
  have f0:=hblk.frozen 0;have f1:=hblk.frozen 1;have f2:=hblk.frozen 2;have f3:=hblk.frozen 3;clear hgk hblk
  by_cases hlt:m<s.size
  · have hx:=zbd s m hlt
    have i0:(0:Int)≤(m:Int):=om;have i1:(m:Int)<(s.size:Int):=om;generalize hxx:s[m]=x at hx;have HX:=qh hx;clear hx
    by_cases h34:x=34
    · have e1:((x.toNat:Int) == 34)=true:=by rw[h34];rfl
      have HTQ:=qh (HT.out.trans (zfw (by have:=HX.out;rw[h34]at this;exact this)));clear h34
      go_wp2_with (refine zcd rfl 83 9 (.tmp 21) rfl 5 Tryz.underlying83 Tryz.underlying5 Tryz.underlying9 A acc.length c rr acc (Rd.of_own hown) ?_)
      refine bodyPost_ret (zc0 rfl _ w.heap.size 72 (tokCells ⟨4,acc,0,i⟩) rfl (by exact((((HBLK.out.set_ 0 _).set_ 1 _).set_ 2 _).set_ 3 _)) _ Tryz.underlying72 rfl hdTok) rfl ?_;rw[HTQ.out];refine⟨?_,((((hBr.setCell lr _).setCell lr _).setCell lr _).setCell lr _)⟩;rw[show s.size-(s.data.toList.drop (m+1)).length=m+1 from by simp;omega]
      rfl
    · have e1:((x.toNat:Int) == 34)=false:=zat (k:=34) h34
      have H34:=qh h34;clear h34
      by_cases hct:(x<32 || x>126)=true
      · have h92:x≠92:=fun e=>by subst e;revert hct;decide
        have HTQ:=qh (HT.out.trans (zjn HX.out H34.out h92 hct));have hcase:=zgv hct;clear hct h92
        rcases hcase with a1|⟨a1,a2⟩
        all_goals
          go_wp2_with fail
          exact bodyPost_ret (zc0 rfl _ w.heap.size 72 zTok rfl (by exact((((HBLK.out.set_ 0 _).set_ 1 _).set_ 2 _).set_ 3 _)) _ Tryz.underlying72 rfl hdTok) rfl (zcn HTQ.out om ((((hBr.setCell lr _).setCell lr _).setCell lr _).setCell lr _))
      · have hct':(x<32 || x>126)=false:=by simpa using hct
        obtain⟨a1,a2⟩:=zkt hct'
        by_cases h92:x=92
        · have e2:((x.toNat:Int) != 92)=false:=by rw[h92];rfl
          have HX92:Hid (s.data.toList[m]? = some 92):=by have:=HX.out;rw[h92]at this;exact this
          clear h92 hct hct'
          by_cases hl1:m+1<s.size
          · have k1:decide ((m:Int)+1<(s.size:Int))=true:=by simp;omega
            have k0:(0:Int)≤(m:Int)+1:=om;have hy:=zbd s (m+1) hl1;generalize hyy:s[m+1]=y at hy;have HY:=qh hy;clear hy
            by_cases hq34:y=34
            · have q1:((y.toNat:Int) == 34)=true:=by rw[hq34];rfl
              have HTQ:=qh (HT.out.trans (zkq HX92.out (esc_q HY.out (.inl hq34))));clear hq34
              go_wp2_with (at_builtin;refine zaf rfl (.tmp 62) (.tmp 67) _ rfl (w.heap.size+1) 5 1 1 Tryz.underlying83 eU8b (.slice A acc.length c) acc.length (u8s acc) rr (by exact hown.alloc _) (some ⟨wr.heap.size,0,none⟩) 1 1 [.int .u8 y.toNat] rr (by exact RdS.new wr _ [.int .u8 y.toNat] 1 rfl) (by simp[Value.oneCell']) om om (by simp;omega) ?_)
              intro A2 c2 w3 hown2 hc2 hg2 hat2;obtain⟨hB3,hb3⟩:=za8 hown (hBr.alloc hBr.size _) (HBLK.out.alloc _) hg2
              have hown3:w3.ownsRow (w.heap.size+1) 5 1 (.slice A2 (acc++[y]).length c2) (acc++[y]).length (u8s (acc++[y])):=by
               rw[za7,la9];exact hown2
              clear hg2 hat2 hown2 hown hBr d0 d1 d2 d3 f0 f1 f2 f3
              go_wp2_with fail
              go_roundg (s.size-(m+2))
              case measure=>have:=HGK.out;omega
              case rel=>exact⟨m+2,acc++[y],A2,c2,by omega,by omega,rfl,by go_num,by rw[la9];rfl,by rw[la9];simp;omega,hown3,hB3,hb3,HTQ.out⟩
            · have q1:((y.toNat:Int) == 34)=false:=zat (k:=34) hq34
              by_cases hq92:y=92
              · have q2:((y.toNat:Int) == 92)=true:=by rw[hq92];rfl
                have HTQ:=qh (HT.out.trans (zkq HX92.out (esc_q HY.out (.inr hq92))));clear hq34 hq92
                go_wp2_with (at_builtin;refine zaf rfl (.tmp 62) (.tmp 67) _ rfl (w.heap.size+1) 5 1 1 Tryz.underlying83 eU8b (.slice A acc.length c) acc.length (u8s acc) rr (by exact hown.alloc _) (some ⟨wr.heap.size,0,none⟩) 1 1 [.int .u8 y.toNat] rr (by exact RdS.new wr _ [.int .u8 y.toNat] 1 rfl) (by simp[Value.oneCell']) om om (by simp;omega) ?_)
                intro A2 c2 w3 hown2 hc2 hg2 hat2;obtain⟨hB3,hb3⟩:=za8 hown (hBr.alloc hBr.size _) (HBLK.out.alloc _) hg2
                have hown3:w3.ownsRow (w.heap.size+1) 5 1 (.slice A2 (acc++[y]).length c2) (acc++[y]).length (u8s (acc++[y])):=by
                 rw[za7,la9];exact hown2
                clear hg2 hat2 hown2 hown hBr d0 d1 d2 d3 f0 f1 f2 f3
                go_wp2_with fail
                go_roundg (s.size-(m+2))
                case measure=>have:=HGK.out;omega
                case rel=>exact⟨m+2,acc++[y],A2,c2,by omega,by omega,rfl,by go_num,by rw[la9];rfl,by rw[la9];simp;omega,hown3,hB3,hb3,HTQ.out⟩
              · have q2:((y.toNat:Int) == 92)=false:=zat (k:=92) hq92
                by_cases hq110:y=110
                · have q3:((y.toNat:Int) == 110)=true:=by rw[hq110];rfl
                  have HTQ:=qh (HT.out.trans (zkq HX92.out (esc_n (by have:=HY.out;rw[hq110]at this;exact this))));clear hq34 hq92 hq110
                  go_wp2_with (at_builtin;refine zaf rfl (.tmp 83) (.tmp 84) _ rfl (w.heap.size+1) 5 1 1 Tryz.underlying83 eU8b (.slice A acc.length c) acc.length (u8s acc) rr (by exact hown.alloc _) (some ⟨wr.heap.size,0,none⟩) 1 1 [.int .u8 10] rr (by exact RdS.new wr _ [.int .u8 10] 1 rfl) (by simp[Value.oneCell']) om om (by simp;omega) ?_)
                  intro A2 c2 w3 hown2 hc2 hg2 hat2;obtain⟨hB3,hb3⟩:=za8 hown (hBr.alloc hBr.size _) (HBLK.out.alloc _) hg2
                  have hown3:w3.ownsRow (w.heap.size+1) 5 1 (.slice A2 (acc++[10]).length c2) (acc++[10]).length (u8s (acc++[10])):=by
                   rw[za7,la9];exact hown2
                  clear hg2 hat2 hown2 hown hBr d0 d1 d2 d3 f0 f1 f2 f3
                  go_wp2_with fail
                  go_roundg (s.size-(m+2))
                  case measure=>have:=HGK.out;omega
                  case rel=>exact⟨m+2,acc++[10],A2,c2,by omega,by omega,rfl,by go_num,by rw[la9];rfl,by rw[la9];simp;omega,hown3,hB3,hb3,HTQ.out⟩
                · have q3:((y.toNat:Int) == 110)=false:=zat (k:=110) hq110
                  by_cases hq120:y=120
                  · have q4:((y.toNat:Int) == 120)=true:=by rw[hq120];rfl
                    have HY120:Hid (s.data.toList[m+1]? = some 120):=by have:=HY.out;rw[hq120]at this;exact this
                    clear hq34 hq92 hq110 hq120
                    by_cases hl3:m+3<s.size
                    · have k3:decide ((m:Int)+3<(s.size:Int))=true:=by simp;omega
                      have k2:(0:Int)≤(m:Int)+2:=om;have k2':(m:Int)+2<(s.size:Int):=om;have k3':(0:Int)≤(m:Int)+3:=om;have hl2:m+2<s.size:=om;have hh:=zbd s (m+2) hl2;have ho:=zbd s (m+3) hl3;generalize hhh:s[m+2]=u at hh;generalize hoo:s[m+3]=v at ho;have HH:=qh hh;have HO:=qh ho;clear hh ho
                      cases hu:Lx.hexV u with
                      | none =>
                       have HA:=zhq hu;have HTQ:=qh (HT.out.trans (zid HX92.out (zoa HY120.out HH.out HO.out (.inl hu))));clear hu
                       go_wp2_with (go_at_call 87;refine(HA.out _).mono ?_;rintro e w' ⟨rfl,rfl⟩)
                       exact bodyPost_ret (zc0 rfl _ w.heap.size 72 zTok rfl (by exact((((HBLK.out.set_ 0 _).set_ 1 _).set_ 2 _).set_ 3 _)) _ Tryz.underlying72 rfl hdTok) rfl (zcn HTQ.out om ((((hBr.setCell lr _).setCell lr _).setCell lr _).setCell lr _))
                      | some a =>
                       have HA:=zhp hu;have ha:=zgt hu
                       cases hv:Lx.hexV v with
                       | none =>
                        have HB:=zhq hv;have HTQ:=qh (HT.out.trans (zid HX92.out (zoa HY120.out HH.out HO.out (.inr hv))));clear hu hv
                        go_wp2_with (go_at_call 87;((first|with_reducible refine(HA.out _).mono ?_|with_reducible refine(HB.out _).mono ?_);rintro e w' ⟨rfl,rfl⟩))
                        exact bodyPost_ret (zc0 rfl _ w.heap.size 72 zTok rfl (by exact((((HBLK.out.set_ 0 _).set_ 1 _).set_ 2 _).set_ 3 _)) _ Tryz.underlying72 rfl hdTok) rfl (zcn HTQ.out om ((((hBr.setCell lr _).setCell lr _).setCell lr _).setCell lr _))
                       | some b =>
                        have HB:=zhp hv;have hb:=zgt hv;have HTQ:=qh (HT.out.trans (zkq HX92.out (esc_x HY120.out HH.out HO.out hu hv)));clear hu hv;have hbyte:((UInt8.ofNat (16*a+b)).toNat:Int)=16*(a:Int)+(b:Int):=by rw[UInt8.toNat_ofNat'];omega
                        generalize UInt8.ofNat (16*a+b)=z at *;have HZ:=qh hbyte;clear hbyte
                        go_wp2_with (go_at_call 87;((first|with_reducible refine(HA.out _).mono ?_|with_reducible refine(HB.out _).mono ?_);rintro e w' ⟨rfl,rfl⟩))
                        have t1:IntKind.i64.wrap (16*(a:Int))=16*(a:Int):=IntWalk.i64_in _ om;have t2:IntKind.i64.wrap (16*(a:Int)+(b:Int))=16*(a:Int)+(b:Int):=IntWalk.i64_in _ om;have t3:IntKind.u8.wrap (16*(a:Int)+(b:Int))=16*(a:Int)+(b:Int):=IntWalk.u8_in _ om;have t4:IntKind.i64.wrap ((m:Int)+2)=(m:Int)+2:=IntWalk.i64_in _ om;have t5:IntKind.i64.wrap ((m:Int)+3)=(m:Int)+3:=IntWalk.i64_in _ om;have t6:((m:Int)+2).toNat=m+2:=om;have t7:((m:Int)+3).toNat=m+3:=om;have t8:(m:Int)+3<(s.size:Int):=om
                        go_region_held3 (fun _=>True) (trivial) (first
                         | (go_at_call 87;((first|with_reducible refine(HA.out _).mono ?_|with_reducible refine(HB.out _).mono ?_);rintro e w' ⟨rfl,rfl⟩))
                         | (refine zen rfl (.tmp 116) (.tmp 130) _ rfl (w.heap.size+1) 5 1 1 Tryz.underlying83 eU8b (.slice A acc.length c) acc.length (u8s acc) rr (by exact hown.alloc _) (some ⟨wr.heap.size,0,none⟩) 1 1 [.int .u8 (16*(a:Int)+(b:Int))] rr (by exact RdS.new wr _ [.int .u8 (16*(a:Int)+(b:Int))] 1 rfl) (by simp[Value.oneCell']) om om (by simp;omega) ?_;intro A2 c2 w3 hown2 hc2 hg2 hat2))
                        clear t1 t2 t3 t4 t5 t6 t7 t8
                        all_goals
                          obtain⟨hB3,hb3⟩:=za8 hown (hBr.alloc hBr.size _).drew (HBLK.out.alloc _).drew hg2
                          have hown3:w3.ownsRow (w.heap.size+1) 5 1 (.slice A2 (acc++[z]).length c2) (acc++[z]).length (u8s (acc++[z])):=by
                           rw[za7,la9,show u8s [z]=[.int .u8 (16*(a:Int)+(b:Int))] from by rw[←HZ.out];rfl];exact hown2
                          clear hg2 hat2 hown2 hown hBr d0 d1 d2 d3 f0 f1 f2 f3
                          go_wp2_with fail
                          go_roundg (s.size-(m+4))
                          case measure=>have:=HGK.out;omega
                          case rel=>exact⟨m+4,acc++[z],A2,c2,by omega,by omega,rfl,by go_num,by rw[la9];rfl,by rw[la9];simp;omega,hown3,hB3,hb3,HTQ.out⟩
                    · have k3:decide ((m:Int)+3<(s.size:Int))=false:=by simp;omega
                      have HTQ:=qh (HT.out.trans (zid HX92.out (zqb HY120.out (by simp;omega))))
                      go_wp2_with fail
                      exact bodyPost_ret (zc0 rfl _ w.heap.size 72 zTok rfl (by exact((((HBLK.out.set_ 0 _).set_ 1 _).set_ 2 _).set_ 3 _)) _ Tryz.underlying72 rfl hdTok) rfl (zcn HTQ.out om ((((hBr.setCell lr _).setCell lr _).setCell lr _).setCell lr _))
                  · have q4:((y.toNat:Int) == 120)=false:=zat (k:=120) hq120
                    have HTQ:=qh (HT.out.trans (zid HX92.out (zqc HY.out hq34 hq92 hq110 hq120)));clear hq34 hq92 hq110 hq120
                    by_cases hl3:m+3<s.size
                    · have k3:decide ((m:Int)+3<(s.size:Int))=true:=by simp;omega
                      go_wp2_with fail
                      exact bodyPost_ret (zc0 rfl _ w.heap.size 72 zTok rfl (by exact((((HBLK.out.set_ 0 _).set_ 1 _).set_ 2 _).set_ 3 _)) _ Tryz.underlying72 rfl hdTok) rfl (zcn HTQ.out om ((((hBr.setCell lr _).setCell lr _).setCell lr _).setCell lr _))
                    · have k3:decide ((m:Int)+3<(s.size:Int))=false:=by simp;omega
                      go_wp2_with fail
                      exact bodyPost_ret (zc0 rfl _ w.heap.size 72 zTok rfl (by exact((((HBLK.out.set_ 0 _).set_ 1 _).set_ 2 _).set_ 3 _)) _ Tryz.underlying72 rfl hdTok) rfl (zcn HTQ.out om ((((hBr.setCell lr _).setCell lr _).setCell lr _).setCell lr _))
          · have k1:decide ((m:Int)+1<(s.size:Int))=false:=by simp;omega
            have k3:decide ((m:Int)+3<(s.size:Int))=false:=by simp;omega
            have HTQ:=qh (HT.out.trans (zid HX92.out (zst (by simp;omega))))
            go_wp2_with fail
            exact bodyPost_ret (zc0 rfl _ w.heap.size 72 zTok rfl (by exact((((HBLK.out.set_ 0 _).set_ 1 _).set_ 2 _).set_ 3 _)) _ Tryz.underlying72 rfl hdTok) rfl (zcn HTQ.out om ((((hBr.setCell lr _).setCell lr _).setCell lr _).setCell lr _))
        · have e2:((x.toNat:Int) != 92)=true:=zje (k:=92) h92
          have HTQ:=qh (HT.out.trans (zfx HX.out H34.out h92 hct'));clear h92 hct hct'
          go_wp2_with (at_builtin;refine zaf rfl (.tmp 37) (.tmp 39) _ rfl (w.heap.size+1) 5 1 1 Tryz.underlying83 eU8b (.slice A acc.length c) acc.length (u8s acc) rr (by exact hown.alloc _) (some ⟨wr.heap.size,0,none⟩) 1 1 [.int .u8 x.toNat] rr (by exact RdS.new wr _ [.int .u8 x.toNat] 1 rfl) (by simp[Value.oneCell']) om om (by simp;omega) ?_)
          intro A2 c2 w3 hown2 hc2 hg2 hat2;obtain⟨hB3,hb3⟩:=za8 hown (hBr.alloc hBr.size _) (HBLK.out.alloc _) hg2
          have hown3:w3.ownsRow (w.heap.size+1) 5 1 (.slice A2 (acc++[x]).length c2) (acc++[x]).length (u8s (acc++[x])):=by
           rw[za7,la9];exact hown2
          clear hg2 hat2 hown2 hown hBr d0 d1 d2 d3 f0 f1 f2 f3
          go_wp2_with fail
          go_roundg (s.size-(m+1))
          case measure=>have:=HGK.out;omega
          case rel=>exact⟨m+1,acc++[x],A2,c2,by omega,by omega,rfl,by go_num,by rw[la9];rfl,by rw[la9];simp;omega,hown3,hB3,hb3,HTQ.out⟩
  · have hge:s.size≤m:=om
    have HTQ:=qh (HT.out.trans (zjm (by simpa using hge)));have hms:m=s.size:=om;have HTQ':Hid (R=.inl (s.data.toList.drop s.size)):=by show _=_;rw[HTQ.out,List.drop_eq_nil_of_le sy]
    clear HTQ;have HTQ:=HTQ';clear HTQ' hms
    go_wp2_with fail
    exact bodyPost_ret (zc0 rfl _ w.heap.size 72 zTok rfl (by exact((((HBLK.out.set_ 0 _).set_ 1 _).set_ 2 _).set_ 3 _)) _ Tryz.underlying72 rfl hdTok) rfl (zcn HTQ.out om ((((hBr.setCell lr _).setCell lr _).setCell lr _).setCell lr _))
section
theorem za5(x:UInt8)(w:World):Calls Tryz.prog 57 #[.int .u8 x.toNat] w fun e w'=>e=.returned (.bool (Lx.letter x))∧w=w':=(ziv x w).mono fun _ _ ⟨a,b⟩=>⟨a,b.symm⟩
theorem zbf(x:UInt8)(w:World):Calls Tryz.prog 58 #[.int .u8 x.toNat] w fun e w'=>e=.returned (.bool (Lx.digit x))∧w=w':=(zeh x w).mono fun _ _ ⟨a,b⟩=>⟨a,b.symm⟩
theorem zmu(x:UInt8)(w:World):Calls Tryz.prog 61 #[.int .u8 x.toNat] w fun e w'=>e=.returned (.bool (Lx.mark x))∧w=w':=(zmv x w).mono fun _ _ ⟨a,b⟩=>⟨a,b.symm⟩
theorem zj4(t:List UInt8)(w:World):Calls Tryz.prog 59 #[.string (bytesOf t)] w fun e w'=>e=.returned (.bool (Lx.reserved t))∧w=w':=(zgl (bytesOf t) w).mono fun _ _ ⟨a,b⟩=>⟨by rw[a,zbb],b.symm⟩
section
variable{l:List UInt8}{n j:Nat}{ts:List Lx.Tok}
def scr(l:List UInt8)(n j:Nat)(ts:List Lx.Tok):Sum (List UInt8) (List Lx.Tok):=Lx.scanF n (n-j+1) (l.drop j) ts
theorem zgd(hn:l.length=n){j':Nat}(h:Lx.skip false (l.drop j)=Lx.skip false (l.drop j'))(h1:j≤j')(h2:j'≤n):scr l n j ts=scr l n j' ts:=by
 unfold scr
 rw[Lx.scan_skip,h,←Lx.scan_skip];exact Lx.scan_fuel _ _ _ _ (by simp;omega) _ (by simp;omega)
theorem zri(hn:l.length=n)(h:n≤j):scr l n j ts=.inr (ts++[⟨6,[],0,n⟩]):=by
 unfold scr
 rw[List.drop_eq_nil_of_le om,Lx.scan_end]
theorem ze1{x:UInt8}(hx:l[j]? = some x)(h1:Lx.blank x=false)(h2:x≠35){y:List UInt8}(ht:Lx.token (l.drop j)=.inl y):scr l n j ts=.inl y:=by
 have hs:=ze0 hx h1 h2
 unfold scr
 rw[zah hx]at hs ht ⊢;rw[Lx.scan_step _ _ _ _ _ hs,ht]
theorem zgc(hn:l.length=n){x:UInt8}(hx:l[j]? = some x)(h1:Lx.blank x=false)(h2:x≠35){k m i:Nat}{t:List UInt8}(ht:Lx.token (l.drop j)=.inr (k,t,m,l.drop i))(hi:i≤n):
 j<i∧scr l n j ts=scr l n i (ts++[⟨k,t,m,j⟩]):=by
 have hs:=ze0 hx h1 h2;have hj:j<l.length:=(gi9.1 hx).1
 have hlen:(l.drop i).length<(l.drop j).length:=by
  rw[zah hx]at ht ⊢;exact Lx.token_len ht
 simp at hlen
 refine⟨by omega,?_⟩
 unfold scr
 have hd:(l.drop j).length=n-j:=by simp[hn]
 rw[zah hx]at hs ht hd ⊢;rw[Lx.scan_step _ _ _ _ _ hs,ht];simp only[];rw[hd,show n-(n-j)=j from by omega];exact Lx.scan_fuel _ _ _ _ (by simp;omega) _ (by simp;omega)
end
theorem zhz{w w':World}{base n sz:Nat}{e:TypeId}{v:Value}{xs:List Value}(h:w.ownsRow base e sz v n xs)(hb:Below w.heap.size w w'):w'.ownsRow base e sz v n xs:=by
 refine⟨h.1,?_⟩
 rcases h.2 with h3|⟨g',cap,cur,hv,hg',hh,r⟩
 · exact .inl h3
 · exact .inr ⟨g',cap,cur,hv,hg',(hb.block g' (Array.getElem?_eq_some_iff.1 hh).1).trans hh,r⟩
structure RMid(w:World)(s:ByteArray)(R:Sum (List UInt8) (List Lx.Tok))(j:Nat)(ts:List Lx.Tok)(A:Option Addr)(c:Nat)(wr:World):Prop where
 own:wr.ownsRow (w.heap.size+1) 72 4 (.slice A ts.length c) ts.length (toksCells ts)
 ft:Blk wr w.heap.size 29 [.int .i64 0,.int .i64 0]
 bel:Below w.heap.size w wr
 le:j≤s.size
 few:ts.length≤j
 res:R=scr s.data.toList s.size j ts
theorem RMid.to{w wr wr':World}{s:ByteArray}{R:Sum (List UInt8) (List Lx.Tok)}{j i:Nat}{ts:List Lx.Tok}{A:Option Addr}{c:Nat}(h:RMid w s R j ts A c wr)(hB:wr'=wr)(hi:i≤s.size)(hji:j≤i)(hr:scr s.data.toList s.size j ts=scr s.data.toList s.size i ts):RMid w s R i ts A c wr':=by
 subst hB;exact⟨h.own,h.ft,h.bel,hi,by have:=h.few;omega,h.res.trans hr⟩
theorem RMid.app{w wr wr' w3:World}{s:ByteArray}{R:Sum (List UInt8) (List Lx.Tok)}{j i:Nat}{ts:List Lx.Tok}{A A2:Option Addr}{c c2:Nat}{t:Lx.Tok}(h:RMid w s R j ts A c wr)(hft:Blk wr' w.heap.size 29 [.int .i64 0,.int .i64 0])(hbel:Below w.heap.size w wr')(hi:i≤s.size)(hji:j<i)
 (hg:wr'.grownBy w3 (Value.ownBlock (.slice A ts.length c))) (hown:w3.ownsRow (w.heap.size+1) 72 4 (.slice A2 (ts.length+1) c2) (ts.length+1) (toksCells ts++tokCells t)) (hr:scr s.data.toList s.size j ts=scr s.data.toList s.size i (ts++[t])):RMid w s R i (ts++[t]) A2 c2 w3:=by
 obtain⟨hB3,hb3⟩:=za8 h.own hbel hft hg;exact⟨by rw[zb1,la9];exact hown,hb3,hB3,hi,by rw[la9];simp;have:=h.few;omega,h.res.trans hr⟩
theorem zcs{w w2:World}{s:ByteArray}{R:Sum (List UInt8) (List Lx.Tok)}{q:Nat}(hs:s.size≤8000)(HR:R=Lx.scanF s.size (s.size+1) s.data.toList []){x:List UInt8}(hR:R=.inl x)(hq:s.size-x.length=q)(hB:Below w.heap.size w w2):
 ScanPost w (Lx.scan s.data.toList) (.returned (.tuple #[.slice none 0 0,.agg #[.int .i64 9,.int .i64 q]])) w2:=by
 have hsc:=zj0 hs (HR.symm.trans hR);rw[hq]at hsc;rw[hsc];exact⟨none,0,rfl,lr,World.ownsRow_nil _ _ _ _,hB⟩
theorem zml(s:ByteArray)(w:World)(hs:8000<s.size):Calls Tryz.prog 25 #[.string s] w (ScanPost w (Lx.scan s.data.toList)):=by
 have hsc:Lx.scan s.data.toList=((2,0),[]):=by unfold Lx.scan;rw[if_pos (by simpa using hs)]
 rw[hsc];have e1:decide ((8000:Int)<(s.size:Int))=true:=by simp;omega
 go_enter Tryz.func25, Tryz.ntmps25
 go_wp2_with fail
 exact bodyPost_ret (zav rfl _ w.heap.size 29 [.int .i64 2,.int .i64 0] rfl (Blk.new w _ _) _ Tryz.underlying29 rfl hd48) rfl
   ⟨none,0,rfl,lr,World.ownsRow_nil _ _ _ _,(Below.refl _ _).alloc lr _⟩
def firstLoop:Code→Option Code
 | .loop c=>some c
 | .seq a b=>match firstLoop a with
  | some c=>some c
  | none=>firstLoop b
 | .block _ c=>firstLoop c
 | .scope c=>firstLoop c
 | .cond _ a b=>match firstLoop a with
  | some c=>some c
  | none=>firstLoop b
 | _=>none
def IsBody(c:Code):Prop:=Tryz.f25.body.bind firstLoop=some c
theorem frame197(t:Array Value)(h:t.size=197):∃u:Nat→Value,(∀k,u k=t.getD k undef)∧t=#[u 0,u 1,u 2,u 3,u 4,u 5,u 6,u 7,u 8,u 9,u 10,u 11,u 12,u 13,u 14,u 15,u 16,u 17,u 18,u 19,u 20,u 21,u 22,u 23,u 24,u 25,u 26,u 27,u 28,u 29,u 30,u 31,u 32,u 33,u 34,u 35,u 36,u 37,u 38,u 39,u 40,u 41,u 42,u 43,u 44,u 45,u 46,u 47,u 48,u 49,u 50,u 51,u 52,u 53,u 54,u 55,u 56,u 57,u 58,u 59,u 60,u 61,u 62,u 63,u 64,u 65,u 66,u 67,u 68,u 69,u 70,u 71,u 72,u 73,u 74,u 75,u 76,u 77,u 78,u 79,u 80,u 81,u 82,u 83,u 84,u 85,u 86,u 87,u 88,u 89,u 90,u 91,u 92,u 93,u 94,u 95,u 96,u 97,u 98,u 99,u 100,u 101,u 102,u 103,u 104,u 105,u 106,u 107,u 108,u 109,u 110,u 111,u 112,u 113,u 114,u 115,u 116,u 117,u 118,u 119,u 120,u 121,u 122,u 123,u 124,u 125,u 126,u 127,u 128,u 129,u 130,u 131,u 132,u 133,u 134,u 135,u 136,u 137,u 138,u 139,u 140,u 141,u 142,u 143,u 144,u 145,u 146,u 147,u 148,u 149,u 150,u 151,u 152,u 153,u 154,u 155,u 156,u 157,u 158,u 159,u 160,u 161,u 162,u 163,u 164,u 165,u 166,u 167,u 168,u 169,u 170,u 171,u 172,u 173,u 174,u 175,u 176,u 177,u 178,u 179,u 180,u 181,u 182,u 183,u 184,u 185,u 186,u 187,u 188,u 189,u 190,u 191,u 192,u 193,u 194,u 195,u 196]:=by
 refine⟨fun k=>t.getD k undef,fun _=>rfl,?_⟩
 have:t=Array.ofFn (n:=197) (fun i=>t.getD i undef):=by
  apply Array.ext
  · simp[h]
  · intro i h1 h2
    simp[Array.getD,h1]
 refine this.trans ?_
 kernel_rfl
def RInv(w:World)(s:ByteArray)(R:Sum (List UInt8) (List Lx.Tok))(k:Nat)(a:Act)(wr:World):Prop :=
 ∃(j:Nat) (ts:List Lx.Tok) (A:Option Addr) (c:Nat),k=s.size-j∧RMid w s R j ts A c wr∧a.defers=[]∧a.tmps.size=197∧a.tmps.getD 0 undef=.string s∧a.tmps.getD 3 undef=.pointer (some ⟨w.heap.size,0,none⟩)∧a.tmps.getD 4 undef=.slice A ts.length c∧a.tmps.getD 5 undef=.int .i64 j
theorem zly(body:Code)(hb:IsBody body)(s:ByteArray)(w wr:World)(R:Sum (List UInt8) (List Lx.Tok))(hs:s.size≤8000)(HR:Hid (R=Lx.scanF s.size (s.size+1) s.data.toList []))(HN:Hid (s.data.toList.length=s.size))
 (gk j:Nat) (ts:List Lx.Tok) (A:Option Addr) (c:Nat) (u:Nat→Value) (J:Nat→Act→World→Prop) (K K1:Act→World→Prop) (hJ:∀k a' w',RInv w s R k a' w'→J k a' w') (hK:∀a' w',Handed J gk a' w'→K a' w')
 (HGK:Hid (gk=s.size-j)) (HM:Hid (RMid w s R j ts A c wr)) (hle:j≤s.size) (hfew:ts.length≤j) (hgl:w.heap.size<wr.heap.size) (hlt:j<s.size) (x:UInt8) (hxx:s[j]=x) (HX:Hid (s.data.toList[j]? = some x)) (hbl:Lx.blank x=true):
 body.wp Tryz.prog (Exit.then K (Exit.inBlock 0 (Exit.then K1 (bodyPost Tryz.prog Tryz.f25 (ScanPost w (Lx.scan s.data.toList)))))) ⟨#[.string s,u 1,u 2,.pointer (some ⟨w.heap.size,0,none⟩),.slice A ts.length c,.int .i64 j,u 6,u 7,u 8,u 9,u 10,u 11,u 12,u 13,u 14,u 15,u 16,u 17,u 18,u 19,u 20,u 21,u 22,u 23,u 24,u 25,u 26,u 27,u 28,u 29,u 30,u 31,u 32,u 33,u 34,u 35,u 36,u 37,u 38,u 39,u 40,u 41,u 42,u 43,u 44,u 45,u 46,u 47,u 48,u 49,u 50,u 51,u 52,u 53,u 54,u 55,u 56,u 57,u 58,u 59,u 60,u 61,u 62,u 63,u 64,u 65,u 66,u 67,u 68,u 69,u 70,u 71,u 72,u 73,u 74,u 75,u 76,u 77,u 78,u 79,u 80,u 81,u 82,u 83,u 84,u 85,u 86,u 87,u 88,u 89,u 90,u 91,u 92,u 93,u 94,u 95,u 96,u 97,u 98,u 99,u 100,u 101,u 102,u 103,u 104,u 105,u 106,u 107,u 108,u 109,u 110,u 111,u 112,u 113,u 114,u 115,u 116,u 117,u 118,u 119,u 120,u 121,u 122,u 123,u 124,u 125,u 126,u 127,u 128,u 129,u 130,u 131,u 132,u 133,u 134,u 135,u 136,u 137,u 138,u 139,u 140,u 141,u 142,u 143,u 144,u 145,u 146,u 147,u 148,u 149,u 150,u 151,u 152,u 153,u 154,u 155,u 156,u 157,u 158,u 159,u 160,u 161,u 162,u 163,u 164,u 165,u 166,u 167,u 168,u 169,u 170,u 171,u 172,u 173,u 174,u 175,u 176,u 177,u 178,u 179,u 180,u 181,u 182,u 183,u 184,u 185,u 186,u 187,u 188,u 189,u 190,u 191,u 192,u 193,u 194,u 195,u 196],[]⟩ wr:=by
 unfold IsBody at hb
 conv at hb=>lhs;whnf
 injection hb with hb
 subst hb;have i1:(j:Int)<(s.size:Int):=om;have i0:(0:Int)≤(j:Int):=om;have HST:=qh (zf1 HX.out hbl)
 have hcase:((x.toNat:Int) == 32)=true∨(((x.toNat:Int) == 32)=false∧((x.toNat:Int) == 9)=true)∨(((x.toNat:Int) == 32)=false∧((x.toNat:Int) == 9)=false∧((x.toNat:Int) == 10)=true):=by
  by_cases x1:x=32
  · exact .inl (by rw[x1];rfl)
  · by_cases x2:x=9
    · exact .inr (.inl ⟨zat (k:=32) x1,by rw[x2];rfl⟩)
    · have x3:x=10:=by simpa[Lx.blank,x1,x2] using hbl
      exact .inr (.inr ⟨zat (k:=32) x1,zat (k:=9) x2,by rw[x3];rfl⟩)
 clear hbl
 rcases hcase with a1|⟨a1,a2⟩|⟨a1,a2,a3⟩
 all_goals
   go_wp2_with fail
   refine Handed.intro (s.size-(j+1)) ?_ (hJ _ _ _ ⟨j+1,ts,A,c,rfl,HM.out.to rfl om om (zgd HN.out HST.out om om),rfl,rfl,rfl,rfl,rfl,by show Value.int _ _=_;first|rfl|go_num⟩);have:=HGK.out;omega
theorem zqj(body:Code)(hb:IsBody body)(s:ByteArray)(w wr:World)(R:Sum (List UInt8) (List Lx.Tok))(hs:s.size≤8000)(HR:Hid (R=Lx.scanF s.size (s.size+1) s.data.toList []))(HN:Hid (s.data.toList.length=s.size))
 (gk j:Nat) (ts:List Lx.Tok) (A:Option Addr) (c:Nat) (u:Nat→Value) (J:Nat→Act→World→Prop) (K K1:Act→World→Prop) (hJ:∀k a' w',RInv w s R k a' w'→J k a' w') (hK:∀a' w',Handed J gk a' w'→K a' w')
 (HGK:Hid (gk=s.size-j)) (HM:Hid (RMid w s R j ts A c wr)) (hle:j≤s.size) (hfew:ts.length≤j) (hgl:w.heap.size<wr.heap.size) (hlt:j<s.size) (x:UInt8) (hxx:s[j]=x) (HX:Hid (s.data.toList[j]? = some x)) (HBL:Hid (Lx.blank x=false)) (b1:((x.toNat:Int) == 32)=false) (b2:((x.toNat:Int) == 9)=false) (b3:((x.toNat:Int) == 10)=false) (h35:x=35):
 body.wp Tryz.prog (Exit.then K (Exit.inBlock 0 (Exit.then K1 (bodyPost Tryz.prog Tryz.f25 (ScanPost w (Lx.scan s.data.toList)))))) ⟨#[.string s,u 1,u 2,.pointer (some ⟨w.heap.size,0,none⟩),.slice A ts.length c,.int .i64 j,u 6,u 7,u 8,u 9,u 10,u 11,u 12,u 13,u 14,u 15,u 16,u 17,u 18,u 19,u 20,u 21,u 22,u 23,u 24,u 25,u 26,u 27,u 28,u 29,u 30,u 31,u 32,u 33,u 34,u 35,u 36,u 37,u 38,u 39,u 40,u 41,u 42,u 43,u 44,u 45,u 46,u 47,u 48,u 49,u 50,u 51,u 52,u 53,u 54,u 55,u 56,u 57,u 58,u 59,u 60,u 61,u 62,u 63,u 64,u 65,u 66,u 67,u 68,u 69,u 70,u 71,u 72,u 73,u 74,u 75,u 76,u 77,u 78,u 79,u 80,u 81,u 82,u 83,u 84,u 85,u 86,u 87,u 88,u 89,u 90,u 91,u 92,u 93,u 94,u 95,u 96,u 97,u 98,u 99,u 100,u 101,u 102,u 103,u 104,u 105,u 106,u 107,u 108,u 109,u 110,u 111,u 112,u 113,u 114,u 115,u 116,u 117,u 118,u 119,u 120,u 121,u 122,u 123,u 124,u 125,u 126,u 127,u 128,u 129,u 130,u 131,u 132,u 133,u 134,u 135,u 136,u 137,u 138,u 139,u 140,u 141,u 142,u 143,u 144,u 145,u 146,u 147,u 148,u 149,u 150,u 151,u 152,u 153,u 154,u 155,u 156,u 157,u 158,u 159,u 160,u 161,u 162,u 163,u 164,u 165,u 166,u 167,u 168,u 169,u 170,u 171,u 172,u 173,u 174,u 175,u 176,u 177,u 178,u 179,u 180,u 181,u 182,u 183,u 184,u 185,u 186,u 187,u 188,u 189,u 190,u 191,u 192,u 193,u 194,u 195,u 196],[]⟩ wr:=by
 unfold IsBody at hb
 conv at hb=>lhs;whnf
 injection hb with hb
 subst hb;have i1:(j:Int)<(s.size:Int):=om;have i0:(0:Int)≤(j:Int):=om;have e35:((x.toNat:Int) == 35)=true:=by rw[h35];rfl
 have HSK:=qh (zjw HX.out h35);have HX35:=qh h35;clear h35
 go_wp2_with fail
 go_loop [5] (fun q=>∃i:Nat,j≤i∧i≤s.size∧q=.int .i64 i∧Hid (Lx.skip true (s.data.toList.drop i)=Lx.skip false (s.data.toList.drop j))) (fun q=>s.size-(intOf q).toNat)
 case atStart=>exact⟨j,lr,by omega,rfl,HSK.out.symm⟩
 case round =>
  obtain⟨i,hji,hi,rfl,HI⟩:=hrel
  by_cases hlt2:i<s.size
  · have j1:(i:Int)<(s.size:Int):=om
    have j0:(0:Int)≤(i:Int):=om;have hy:=zbd s i hlt2;generalize hyy:s[i]=y at hy;have HY:=qh hy;clear hy
    by_cases h10:y=10
    · have e10:((y.toNat:Int) != 10)=false:=by rw[h10];rfl
      have hij:j<i:=by
       rcases Nat.lt_or_ge j i with h|h
       · exact h
       · obtain rfl:i=j:=om
         have:=HX.out.symm.trans HY.out
         injection this with this
         rw[HX35.out,h10]at this;exact absurd this (by decide)
      have HMV:=qh (HI.out.symm.trans (zju HY.out h10));clear h10
      go_wp2_with fail
      refine Handed.intro (s.size-i) ?_ (hJ _ _ _ ⟨i,ts,A,c,rfl,HM.out.to rfl om om (zgd HN.out HMV.out om om),rfl,rfl,rfl,rfl,rfl,by show Value.int _ _=_;first|rfl|go_num⟩);have:=HGK.out;omega
    · have e10:((y.toNat:Int) != 10)=true:=zje (k:=10) h10
      have HMV:=qh ((zmd HY.out h10).symm.trans HI.out);clear h10
      go_wp2_with fail
      go_round
      case rel=>exact⟨i+1,by omega,by omega,by go_num,HMV.out⟩
      case measure=>simp[intOf];omega
  · have hie:s.size≤i:=om
    have HMV:Hid (Lx.skip false (s.data.toList.drop j)=Lx.skip false (s.data.toList.drop i)):=by
     show _=_
     rw[←HI.out,zdz (by rw[HN.out];exact hie),zdz (by rw[HN.out];exact hie)]
    go_wp2_with fail
    refine Handed.intro (s.size-i) ?_ (hJ _ _ _ ⟨i,ts,A,c,rfl,HM.out.to rfl om om (zgd HN.out HMV.out om om),rfl,rfl,rfl,rfl,rfl,by show Value.int _ _=_;first|rfl|go_num⟩);have:=HGK.out;omega
theorem zod(body:Code)(hb:IsBody body)(s:ByteArray)(w wr:World)(R:Sum (List UInt8) (List Lx.Tok))(hs:s.size≤8000)(HR:Hid (R=Lx.scanF s.size (s.size+1) s.data.toList []))(HN:Hid (s.data.toList.length=s.size))
 (gk j:Nat) (ts:List Lx.Tok) (A:Option Addr) (c:Nat) (u:Nat→Value) (J:Nat→Act→World→Prop) (K K1:Act→World→Prop) (hJ:∀k a' w',RInv w s R k a' w'→J k a' w') (hK:∀a' w',Handed J gk a' w'→K a' w')
 (HGK:Hid (gk=s.size-j)) (HM:Hid (RMid w s R j ts A c wr)) (hle:j≤s.size) (hfew:ts.length≤j) (hgl:w.heap.size<wr.heap.size) (hlt:j<s.size) (x:UInt8) (hxx:s[j]=x) (HX:Hid (s.data.toList[j]? = some x)) (HBL:Hid (Lx.blank x=false)) (b1:((x.toNat:Int) == 32)=false) (b2:((x.toNat:Int) == 9)=false) (b3:((x.toNat:Int) == 10)=false) (e35:((x.toNat:Int) == 35)=false) (H35:Hid (x≠35)) (hown:wr.ownsRow (w.heap.size+1) 72 4 (.slice A ts.length c) ts.length (toksCells ts)) (hl:Lx.letter x=false) (hd:Lx.digit x=false) (h34:x≠34):
 body.wp Tryz.prog (Exit.then K (Exit.inBlock 0 (Exit.then K1 (bodyPost Tryz.prog Tryz.f25 (ScanPost w (Lx.scan s.data.toList)))))) ⟨#[.string s,u 1,u 2,.pointer (some ⟨w.heap.size,0,none⟩),.slice A ts.length c,.int .i64 j,u 6,u 7,u 8,u 9,u 10,u 11,u 12,u 13,u 14,u 15,u 16,u 17,u 18,u 19,u 20,u 21,u 22,u 23,u 24,u 25,u 26,u 27,u 28,u 29,u 30,u 31,u 32,u 33,u 34,u 35,u 36,u 37,u 38,u 39,u 40,u 41,u 42,u 43,u 44,u 45,u 46,u 47,u 48,u 49,u 50,u 51,u 52,u 53,u 54,u 55,u 56,u 57,u 58,u 59,u 60,u 61,u 62,u 63,u 64,u 65,u 66,u 67,u 68,u 69,u 70,u 71,u 72,u 73,u 74,u 75,u 76,u 77,u 78,u 79,u 80,u 81,u 82,u 83,u 84,u 85,u 86,u 87,u 88,u 89,u 90,u 91,u 92,u 93,u 94,u 95,u 96,u 97,u 98,u 99,u 100,u 101,u 102,u 103,u 104,u 105,u 106,u 107,u 108,u 109,u 110,u 111,u 112,u 113,u 114,u 115,u 116,u 117,u 118,u 119,u 120,u 121,u 122,u 123,u 124,u 125,u 126,u 127,u 128,u 129,u 130,u 131,u 132,u 133,u 134,u 135,u 136,u 137,u 138,u 139,u 140,u 141,u 142,u 143,u 144,u 145,u 146,u 147,u 148,u 149,u 150,u 151,u 152,u 153,u 154,u 155,u 156,u 157,u 158,u 159,u 160,u 161,u 162,u 163,u 164,u 165,u 166,u 167,u 168,u 169,u 170,u 171,u 172,u 173,u 174,u 175,u 176,u 177,u 178,u 179,u 180,u 181,u 182,u 183,u 184,u 185,u 186,u 187,u 188,u 189,u 190,u 191,u 192,u 193,u 194,u 195,u 196],[]⟩ wr:=by
 unfold IsBody at hb
 conv at hb=>lhs;whnf
 injection hb with hb
 subst hb;have i1:(j:Int)<(s.size:Int):=om;have i0:(0:Int)≤(j:Int):=om;have e34:((x.toNat:Int) == 34)=false:=zat (k:=34) h34
 by_cases hm:Lx.mark x=true
 · have hext:s.extract j (j+1)=bytesOf [x]:=by
    rw[zch,show j+1-j=1 from by omega,zah HX.out];rfl
   have HTK:Hid (scr s.data.toList s.size j ts=scr s.data.toList s.size (j+1) (ts++[⟨5,[x],0,j⟩])):=(zgc HN.out HX.out HBL.out H35.out (zjk HX.out hl hd h34 hm) om).2;clear h34
   go_wp2_with (first|(go_at_call 57;refine(za5 _ _).mono ?_;rintro e w' ⟨rfl,rfl⟩)| (go_at_call 58;refine(zbf _ _).mono ?_;rintro e w' ⟨rfl,rfl⟩)| (go_at_call 61;refine(zmu _ _).mono ?_;rintro e w' ⟨rfl,rfl⟩)| (at_builtin;refine zaf rfl (.tmp 176) (.tmp 183) _ rfl (w.heap.size+1) 72 4 40 Tryz.underlying65 eTok (.slice A ts.length c) ts.length (toksCells ts) rr (by exact hown.alloc _) (some ⟨wr.heap.size,0,none⟩) 1 1 [.int .i64 5,.string (bytesOf [x]),.int .i64 0,.int .i64 j] rr (by exact RdS.new wr _ [.int .i64 5,.string (bytesOf [x]),.int .i64 0,.int .i64 j] 4 rfl) (by simp[Value.oneCell']) om om (by simp;omega) ?_;intro A2 c2 w3 hown2 hc2 hg2 hat2;obtain⟨hB3,hf3⟩:=za8 hown (HM.out.bel.alloc HM.out.bel.size _) (HM.out.ft.alloc _) hg2;have d0:w3.cell? ⟨w.heap.size,0,none⟩=some (.int .i64 0):=(hf3.cell 0);have d1:w3.cell? ⟨w.heap.size,1,none⟩=some (.int .i64 0):=(hf3.cell 1);have f0:=hf3.frozen 0;have f1:=hf3.frozen 1))
   clear d0 d1 f0 f1;refine Handed.intro (s.size-(j+1)) ?_ (hJ _ _ _ ⟨j+1,ts++[⟨5,[x],0,j⟩],A2,c2,rfl,HM.out.app (t:=⟨5,[x],0,j⟩) (HM.out.ft.alloc _) (HM.out.bel.alloc HM.out.bel.size _) om om hg2 hown2 HTK.out,rfl,rfl,rfl,rfl,by rw[la9];rfl,by show Value.int _ _=_;first|rfl|go_num⟩);have:=HGK.out;omega
 · have hm':Lx.mark x=false:=by simpa using hm
   have HBD:Hid (R=.inl (s.data.toList.drop j)):=HM.out.res.trans (ze1 HX.out HBL.out H35.out (zjj HX.out hl hd h34 hm'));clear h34 hm;have hft:=HM.out.ft;have d0:wr.cell? ⟨w.heap.size,0,none⟩=some (.int .i64 0):=hft.cell 0;have d1:wr.cell? ⟨w.heap.size,1,none⟩=some (.int .i64 0):=hft.cell 1;have f0:=hft.frozen 0;have f1:=hft.frozen 1;have hbel:=HM.out.bel
   go_wp2_with (first|(go_at_call 57;refine(za5 _ _).mono ?_;rintro e w' ⟨rfl,rfl⟩)| (go_at_call 58;refine(zbf _ _).mono ?_;rintro e w' ⟨rfl,rfl⟩)| (go_at_call 61;refine(zmu _ _).mono ?_;rintro e w' ⟨rfl,rfl⟩))
   refine bodyPost_ret (zav rfl _ w.heap.size 29 [.int .i64 9,.int .i64 j] rfl ((hft.set_ 0 _).set_ 1 _) _ Tryz.underlying29 rfl hd48) rfl ?_;exact zcs hs HR.out HBD.out (by simp;omega) ((hbel.setCell lr _).setCell lr _)
theorem zoc(body:Code)(hb:IsBody body)(s:ByteArray)(w wr:World)(R:Sum (List UInt8) (List Lx.Tok))(hs:s.size≤8000)(HR:Hid (R=Lx.scanF s.size (s.size+1) s.data.toList []))(HN:Hid (s.data.toList.length=s.size))
 (gk j:Nat) (ts:List Lx.Tok) (A:Option Addr) (c:Nat) (u:Nat→Value) (J:Nat→Act→World→Prop) (K K1:Act→World→Prop) (hJ:∀k a' w',RInv w s R k a' w'→J k a' w') (hK:∀a' w',Handed J gk a' w'→K a' w')
 (HGK:Hid (gk=s.size-j)) (HM:Hid (RMid w s R j ts A c wr)) (hle:j≤s.size) (hfew:ts.length≤j) (hgl:w.heap.size<wr.heap.size) (hlt:j<s.size) (x:UInt8) (hxx:s[j]=x) (HX:Hid (s.data.toList[j]? = some x)) (HBL:Hid (Lx.blank x=false)) (b1:((x.toNat:Int) == 32)=false) (b2:((x.toNat:Int) == 9)=false) (b3:((x.toNat:Int) == 10)=false) (e35:((x.toNat:Int) == 35)=false) (H35:Hid (x≠35)) (hown:wr.ownsRow (w.heap.size+1) 72 4 (.slice A ts.length c) ts.length (toksCells ts)) (hl:Lx.letter x=false) (hd:Lx.digit x=false) (h34:x=34):
 body.wp Tryz.prog (Exit.then K (Exit.inBlock 0 (Exit.then K1 (bodyPost Tryz.prog Tryz.f25 (ScanPost w (Lx.scan s.data.toList)))))) ⟨#[.string s,u 1,u 2,.pointer (some ⟨w.heap.size,0,none⟩),.slice A ts.length c,.int .i64 j,u 6,u 7,u 8,u 9,u 10,u 11,u 12,u 13,u 14,u 15,u 16,u 17,u 18,u 19,u 20,u 21,u 22,u 23,u 24,u 25,u 26,u 27,u 28,u 29,u 30,u 31,u 32,u 33,u 34,u 35,u 36,u 37,u 38,u 39,u 40,u 41,u 42,u 43,u 44,u 45,u 46,u 47,u 48,u 49,u 50,u 51,u 52,u 53,u 54,u 55,u 56,u 57,u 58,u 59,u 60,u 61,u 62,u 63,u 64,u 65,u 66,u 67,u 68,u 69,u 70,u 71,u 72,u 73,u 74,u 75,u 76,u 77,u 78,u 79,u 80,u 81,u 82,u 83,u 84,u 85,u 86,u 87,u 88,u 89,u 90,u 91,u 92,u 93,u 94,u 95,u 96,u 97,u 98,u 99,u 100,u 101,u 102,u 103,u 104,u 105,u 106,u 107,u 108,u 109,u 110,u 111,u 112,u 113,u 114,u 115,u 116,u 117,u 118,u 119,u 120,u 121,u 122,u 123,u 124,u 125,u 126,u 127,u 128,u 129,u 130,u 131,u 132,u 133,u 134,u 135,u 136,u 137,u 138,u 139,u 140,u 141,u 142,u 143,u 144,u 145,u 146,u 147,u 148,u 149,u 150,u 151,u 152,u 153,u 154,u 155,u 156,u 157,u 158,u 159,u 160,u 161,u 162,u 163,u 164,u 165,u 166,u 167,u 168,u 169,u 170,u 171,u 172,u 173,u 174,u 175,u 176,u 177,u 178,u 179,u 180,u 181,u 182,u 183,u 184,u 185,u 186,u 187,u 188,u 189,u 190,u 191,u 192,u 193,u 194,u 195,u 196],[]⟩ wr:=by
 unfold IsBody at hb
 conv at hb=>lhs;whnf
 injection hb with hb
 subst hb;have i1:(j:Int)<(s.size:Int):=om;have i0:(0:Int)≤(j:Int):=om;have e34:((x.toNat:Int) == 34)=true:=by rw[h34];rfl
 have htok:=zji HX.out h34;have HNB:Hid (Value.ownBlock (.slice A ts.length c)≠some wr.heap.size):=fun e=>by have:=(hown.lt _ e).2;omega
 cases hq:Lx.text (s.data.toList.drop (j+1)).length.succ (s.data.toList.drop (j+1)) []with
 | inl y =>
  have HTX:Hid (∀W,Calls Tryz.prog 60 #[.string s,.int .i64 j] W (RTextPost s j W (.inl y))):=fun W=>by
   have:=zg8 s j W hlt hs _ rfl;rw[hq]at this;exact this
  have HBD:Hid (R=.inl y):=HM.out.res.trans (ze1 HX.out HBL.out H35.out (by rw[htok,hq]));obtain⟨X,hX⟩:∃X:Nat,s.size-y.length=X:=⟨_,rfl⟩;have HXX:=qh hX
  have HTX':Hid (∀W,Calls Tryz.prog 60 #[.string s,.int .i64 j] W fun e w2=>e=.returned (.tuple #[.agg zTok.toArray,.int .i64 0,.int .i64 (X:Int)])∧Below W.heap.size W w2):=fun W=>by
   rw[←hX];exact HTX.out W
  clear htok hq h34 HTX hX;have HTX:=HTX';clear HTX'
  have HZ1:Hid (∀W,Below (wr.alloc (.cells zTok.toArray 72)).heap.size (wr.alloc (.cells zTok.toArray 72)) W→Blk W wr.heap.size 72 zTok∧W.ownsRow (w.heap.size+1) 72 4 (.slice A ts.length c) ts.length (toksCells ts)∧Blk W w.heap.size 29 [.int .i64 0,.int .i64 0]∧Below w.heap.size w W):=fun W hW =>
   ⟨(Blk.new' rfl rfl:Blk (wr.alloc (.cells zTok.toArray 72)) wr.heap.size 72 zTok).below hW sy,zhz (hown.alloc _) hW,(HM.out.ft.alloc _).below hW (by simp;omega),(HM.out.bel.alloc HM.out.bel.size _).trans (hW.mono (by simp;omega))⟩
  clear hown
  go_wp2_with (first
   | (go_at_call 57;refine(za5 _ _).mono ?_;rintro e w' ⟨rfl,rfl⟩)
   | (go_at_call 58;refine(zbf _ _).mono ?_;rintro e w' ⟨rfl,rfl⟩)
   | (go_at_call 60;refine(HTX.out _).mono ?_;rintro e w2 ⟨rfl,hB2⟩;obtain⟨hz2,hown2,hft2,hbel2⟩:=HZ1.out w2 hB2)
   | (refine zaa rfl 72 (.tmp 11) (.tmp 164) rfl wr.heap.size zTok rr rr 72 zTok hz2 hdTok (by simp[zTok,Value.oneCell']) rfl ?_;intro w3 hb3 ho3;have hw3:w2.heap.size≤w3.heap.size:=Nat.le_of_eq ho3.size.symm;have hw3':w3.heap.size≤w2.heap.size:=Nat.le_of_eq ho3.size;have hl2:=hz2.lt;have t0:=hb3.cell 0;have t1:=hb3.cell 1;have t2:=hb3.cell 2;have t3:=hb3.cell 3;simp only[zTok,List.getElem?_cons_zero,List.getElem?_cons_succ]at t0 t1 t2 t3;have hown3:=hown2.kept ho3.grown (.inr HNB.out);have hft3:=ho3.blk hft2 om;have hbel3:=ho3.below hbel2 om om)
   | (at_builtin;refine zaf rfl (.tmp 167) (.tmp 169) _ rfl (w.heap.size+1) 72 4 40 Tryz.underlying65 eTok (.slice A ts.length c) ts.length (toksCells ts) rr (by exact hown3.alloc _) (some ⟨w3.heap.size,0,none⟩) 1 1 [.int .i64 0,.string ByteArray.empty,.int .i64 0,.int .i64 0] rr (by exact RdS.new w3 _ [.int .i64 0,.string ByteArray.empty,.int .i64 0,.int .i64 0] 4 rfl) (by simp[Value.oneCell']) om om (by simp;omega) ?_;intro A2 c2 w4 hown4 hc4 hg4 hat4;obtain⟨hB4,hf4⟩:=za8 hown3 (hbel3.alloc hbel3.size _) (hft3.alloc _) hg4;have d0:w4.cell? ⟨w.heap.size,0,none⟩=some (.int .i64 0):=(hf4.cell 0);have d1:w4.cell? ⟨w.heap.size,1,none⟩=some (.int .i64 0):=(hf4.cell 1);have f0:=hf4.frozen 0;have f1:=hf4.frozen 1))
  refine bodyPost_ret (zav rfl _ w.heap.size 29 [.int .i64 9,.int .i64 X] rfl ((hf4.set_ 0 _).set_ 1 _) _ Tryz.underlying29 rfl hd48) rfl ?_;exact zcs hs HR.out HBD.out HXX.out ((hB4.setCell lr _).setCell lr _)
 | inr p =>
  obtain⟨b,y⟩:=p;rw[hq]at htok;simp only[]at htok;have hsuf:=zg3 htok;obtain⟨X,hX⟩:∃X:Nat,s.size-y.length=X:=⟨_,rfl⟩;rw[hX]at hsuf;rw[hsuf]at htok;have hXs:X≤s.size:=om;obtain⟨hjX,hscr⟩:=zgc (ts:=ts) HN.out HX.out HBL.out H35.out htok hXs;have HTK:=qh hscr
  have HTX:Hid (∀W,Calls Tryz.prog 60 #[.string s,.int .i64 j] W fun e w2=>e=.returned (.tuple #[.agg (tokCells ⟨4,b,0,j⟩).toArray,.int .i64 (X:Int),.int .i64 (-1)])∧Below W.heap.size W w2):=fun W=>by
   have:=zg8 s j W hlt hs _ rfl;rw[hq]at this;rw[←hX];exact this
  clear htok hq h34 hX hsuf hscr
  have HZ1:Hid (∀W,Below (wr.alloc (.cells zTok.toArray 72)).heap.size (wr.alloc (.cells zTok.toArray 72)) W→Blk W wr.heap.size 72 zTok∧W.ownsRow (w.heap.size+1) 72 4 (.slice A ts.length c) ts.length (toksCells ts)∧Blk W w.heap.size 29 [.int .i64 0,.int .i64 0]∧Below w.heap.size w W):=fun W hW =>
   ⟨(Blk.new' rfl rfl:Blk (wr.alloc (.cells zTok.toArray 72)) wr.heap.size 72 zTok).below hW sy,zhz (hown.alloc _) hW,(HM.out.ft.alloc _).below hW (by simp;omega),(HM.out.bel.alloc HM.out.bel.size _).trans (hW.mono (by simp;omega))⟩
  clear hown
  go_wp2_with (first
   | (go_at_call 57;refine(za5 _ _).mono ?_;rintro e w' ⟨rfl,rfl⟩)
   | (go_at_call 58;refine(zbf _ _).mono ?_;rintro e w' ⟨rfl,rfl⟩)
   | (go_at_call 60;refine(HTX.out _).mono ?_;rintro e w2 ⟨rfl,hB2⟩;obtain⟨hz2,hown2,hft2,hbel2⟩:=HZ1.out w2 hB2)
   | (refine zaa rfl 72 (.tmp 11) (.tmp 164) rfl wr.heap.size (tokCells ⟨4,b,0,j⟩) rr rr 72 zTok hz2 hdTok (by simp[tokCells,Value.oneCell']) rfl ?_;intro w3 hb3 ho3;have hw3:w2.heap.size≤w3.heap.size:=Nat.le_of_eq ho3.size.symm;have hw3':w3.heap.size≤w2.heap.size:=Nat.le_of_eq ho3.size;have hl2:=hz2.lt;have t0:=hb3.cell 0;have t1:=hb3.cell 1;have t2:=hb3.cell 2;have t3:=hb3.cell 3;simp only[tokCells,List.getElem?_cons_zero,List.getElem?_cons_succ]at t0 t1 t2 t3;have hown3:=hown2.kept ho3.grown (.inr HNB.out);have hft3:=ho3.blk hft2 om;have hbel3:=ho3.below hbel2 om om)
   | (at_builtin;refine zaf rfl (.tmp 167) (.tmp 169) _ rfl (w.heap.size+1) 72 4 40 Tryz.underlying65 eTok (.slice A ts.length c) ts.length (toksCells ts) rr (by exact hown3.alloc _) (some ⟨w3.heap.size,0,none⟩) 1 1 [.int .i64 4,.string (bytesOf b),.int .i64 0,.int .i64 j] rr (by exact RdS.new w3 _ [.int .i64 4,.string (bytesOf b),.int .i64 0,.int .i64 j] 4 rfl) (by simp[Value.oneCell']) om om (by simp;omega) ?_;intro A2 c2 w4 hown4 hc4 hg4 hat4;obtain⟨hB4,hf4⟩:=za8 hown3 (hbel3.alloc hbel3.size _) (hft3.alloc _) hg4;have d0:w4.cell? ⟨w.heap.size,0,none⟩=some (.int .i64 0):=(hf4.cell 0);have d1:w4.cell? ⟨w.heap.size,1,none⟩=some (.int .i64 0):=(hf4.cell 1);have f0:=hf4.frozen 0;have f1:=hf4.frozen 1))
  clear d0 d1 f0 f1;refine Handed.intro (s.size-X) ?_ (hJ _ _ _ ⟨X,ts++[⟨4,b,0,j⟩],A2,c2,rfl,⟨by rw[zb1,la9];exact hown4,hf4,hB4,hXs,by rw[la9];simp;omega,HM.out.res.trans HTK.out⟩,rfl,rfl,rfl,rfl,by rw[la9];rfl,by show Value.int _ _=_;first|rfl|go_num⟩);have:=HGK.out;omega
end
theorem zjc(body:Code)(hb:IsBody body)(s:ByteArray)(w wr:World)(R:Sum (List UInt8) (List Lx.Tok))(hs:s.size≤8000)(HR:Hid (R=Lx.scanF s.size (s.size+1) s.data.toList []))(HN:Hid (s.data.toList.length=s.size))
 (gk j:Nat) (ts:List Lx.Tok) (A:Option Addr) (c:Nat) (u:Nat→Value) (J:Nat→Act→World→Prop) (K K1:Act→World→Prop) (hJ:∀k a' w',RInv w s R k a' w'→J k a' w') (hK:∀a' w',Handed J gk a' w'→K a' w')
 (HGK:Hid (gk=s.size-j)) (HM:Hid (RMid w s R j ts A c wr)) (hle:j≤s.size) (hfew:ts.length≤j) (hgl:w.heap.size<wr.heap.size) (hlt:j<s.size) (x:UInt8) (hxx:s[j]=x) (HX:Hid (s.data.toList[j]? = some x)) (HBL:Hid (Lx.blank x=false)) (b1:((x.toNat:Int) == 32)=false) (b2:((x.toNat:Int) == 9)=false) (b3:((x.toNat:Int) == 10)=false) (e35:((x.toNat:Int) == 35)=false) (H35:Hid (x≠35)) (hown:wr.ownsRow (w.heap.size+1) 72 4 (.slice A ts.length c) ts.length (toksCells ts)) (hl:Lx.letter x=true):
 body.wp Tryz.prog (Exit.then K (Exit.inBlock 0 (Exit.then K1 (bodyPost Tryz.prog Tryz.f25 (ScanPost w (Lx.scan s.data.toList)))))) ⟨#[.string s,u 1,u 2,.pointer (some ⟨w.heap.size,0,none⟩),.slice A ts.length c,.int .i64 j,u 6,u 7,u 8,u 9,u 10,u 11,u 12,u 13,u 14,u 15,u 16,u 17,u 18,u 19,u 20,u 21,u 22,u 23,u 24,u 25,u 26,u 27,u 28,u 29,u 30,u 31,u 32,u 33,u 34,u 35,u 36,u 37,u 38,u 39,u 40,u 41,u 42,u 43,u 44,u 45,u 46,u 47,u 48,u 49,u 50,u 51,u 52,u 53,u 54,u 55,u 56,u 57,u 58,u 59,u 60,u 61,u 62,u 63,u 64,u 65,u 66,u 67,u 68,u 69,u 70,u 71,u 72,u 73,u 74,u 75,u 76,u 77,u 78,u 79,u 80,u 81,u 82,u 83,u 84,u 85,u 86,u 87,u 88,u 89,u 90,u 91,u 92,u 93,u 94,u 95,u 96,u 97,u 98,u 99,u 100,u 101,u 102,u 103,u 104,u 105,u 106,u 107,u 108,u 109,u 110,u 111,u 112,u 113,u 114,u 115,u 116,u 117,u 118,u 119,u 120,u 121,u 122,u 123,u 124,u 125,u 126,u 127,u 128,u 129,u 130,u 131,u 132,u 133,u 134,u 135,u 136,u 137,u 138,u 139,u 140,u 141,u 142,u 143,u 144,u 145,u 146,u 147,u 148,u 149,u 150,u 151,u 152,u 153,u 154,u 155,u 156,u 157,u 158,u 159,u 160,u 161,u 162,u 163,u 164,u 165,u 166,u 167,u 168,u 169,u 170,u 171,u 172,u 173,u 174,u 175,u 176,u 177,u 178,u 179,u 180,u 181,u 182,u 183,u 184,u 185,u 186,u 187,u 188,u 189,u 190,u 191,u 192,u 193,u 194,u 195,u 196],[]⟩ wr:=by
 unfold IsBody at hb
 conv at hb=>lhs;whnf
 injection hb with hb
 subst hb;have i1:(j:Int)<(s.size:Int):=om;have i0:(0:Int)≤(j:Int):=om;obtain⟨t,ht⟩:=ex9 ((s.data.toList.drop j).takeWhile Lx.alnum);obtain⟨E,hE⟩:=ex9 (j+t.length);have htok:=zfv HX.out hl;rw[←ht,←hE]at htok;have hEs:E≤s.size:=by have:=zg7 (p:=Lx.alnum) (l:=s.data.toList) (i:=j) (by rw[HN.out];omega);rw[HN.out,←ht,←hE]at this;exact this
 have hjE:j≤E:=om;have hext:s.extract j E=bytesOf t:=by rw[zch,show E-j=t.length from by omega,ht,zem]
 have HTL:Hid (E-j=t.length):=by show _=_;omega
 have HEE:Hid (E=j+((s.data.toList.drop j).takeWhile Lx.alnum).length):=by show _=_;rw[hE,ht]
 have HTOKEN:=qh htok;clear htok ht hE
 go_wp2_with (go_at_call 57;refine(za5 _ _).mono ?_;rintro e w' ⟨rfl,rfl⟩)
 go_loop [7] (fun v=>∃k:Nat,j≤k∧k≤s.size∧v=.int .i64 k∧Hid (k+((s.data.toList.drop k).takeWhile Lx.alnum).length=E)) (fun v=>s.size-(intOf v).toNat)
 case atStart=>exact⟨j,lr,by omega,rfl,HEE.out.symm⟩
 case round =>
  obtain⟨k,hjk,hk,rfl,HK⟩:=hrel
  have hcases:(k<s.size∧∃y,s.data.toList[k]? = some y∧Lx.alnum y=true)∨(k=E∧(s.size≤k∨∃y,s.data.toList[k]? = some y∧Lx.alnum y=false)):=by
   rcases Nat.lt_or_ge k s.size with h|h
   · have hy:=zbd s k h
     by_cases hp:Lx.alnum s[k]=true
     · exact .inl ⟨h,_,hy,hp⟩
     · have hp':Lx.alnum s[k]=false:=by simpa using hp
       refine .inr ⟨?_,.inr ⟨_,hy,hp'⟩⟩;have:=HK.out;rw[zgg hy hp']at this;omega
   · refine .inr ⟨?_,.inl h⟩
     have:=HK.out;rw[zin (by rw[HN.out];exact h)]at this;omega
  rcases hcases with ⟨hlt2,y,hy,hp⟩|⟨hkE,hout⟩
  · have j1:(k:Int)<(s.size:Int):=om
    have j0:(0:Int)≤(k:Int):=om;have HST:=qh (zgh hy hp);have hyy:s[k]=y:=by have:=zbd s k hlt2;rw[hy]at this;injection this with this;exact this.symm
    have hcase:Lx.letter y=true∨(Lx.letter y=false∧Lx.digit y=true):=by
     unfold Lx.alnum at hp;revert hp;cases Lx.letter y <;> cases Lx.digit y <;> simp
    clear hy hp
    rcases hcase with a1|⟨a1,a2⟩
    all_goals
      go_wp2_with (first|(go_at_call 57;refine(za5 _ _).mono ?_;rintro e w' ⟨rfl,rfl⟩)| (go_at_call 58;refine(zbf _ _).mono ?_;rintro e w' ⟨rfl,rfl⟩))
      go_round
      case rel=>exact⟨k+1,by omega,by omega,by go_num,by show _=_;rw[←HK.out,HST.out];omega⟩
      case measure=>simp[intOf];omega
  · have hcase:s.size≤k∨(∃h:k<s.size,Lx.letter s[k]=false∧Lx.digit s[k]=false):=by
     rcases hout with h|⟨y,hy,hp⟩
     · exact .inl h
     · have hk':k<s.size:=by have:=(gi9.1 hy).1;rw[HN.out]at this;exact this
       have:s[k]=y:=by have:=zbd s k hk';rw[hy]at this;injection this with this;exact this.symm
       refine .inr ⟨hk',?_⟩;rw[this]
       unfold Lx.alnum at hp
       revert hp
       cases Lx.letter y <;> cases Lx.digit y <;> simp
    clear hout HK;subst hkE
    by_cases h16:t.length≤16
    · have e16:decide ((16:Int)<(k:Int)-(j:Int))=false:=by have:=HTL.out;simp;omega
      have HTOK:Hid (∀K:Nat,K=(if Lx.reserved t=true then 2 else 1)→j<k∧scr s.data.toList s.size j ts=scr s.data.toList s.size k (ts++[⟨K,t,0,j⟩])):=fun K hK =>
       zgc HN.out HX.out HBL.out H35.out (by rw[HTOKEN.out,if_neg om,←hK]) om
      have hjk':j<k:=(HTOK.out _ rfl).1
      cases hres:Lx.reserved t with
      | true =>
       have HTK:=qh (HTOK.out 2 (by rw[hres];rfl)).2
       rcases hcase with h|⟨h,a1,a2⟩
       all_goals
         go_wp2_with (first|(go_at_call 57;refine(za5 _ _).mono ?_;rintro e w' ⟨rfl,rfl⟩)| (go_at_call 58;refine(zbf _ _).mono ?_;rintro e w' ⟨rfl,rfl⟩)| (go_at_call 59;refine(zj4 t _).mono ?_;rintro e w' ⟨rfl,rfl⟩)| (at_builtin;refine zaf rfl (.tmp 84) (.tmp 92) _ rfl (w.heap.size+1) 72 4 40 Tryz.underlying65 eTok (.slice A ts.length c) ts.length (toksCells ts) rr (by exact hown.alloc _) (some ⟨wr.heap.size,0,none⟩) 1 1 [.int .i64 2,.string (bytesOf t),.int .i64 0,.int .i64 j] rr (by exact RdS.new wr _ [.int .i64 2,.string (bytesOf t),.int .i64 0,.int .i64 j] 4 rfl) (by simp[Value.oneCell']) om om (by simp;omega) ?_;intro A2 c2 w3 hown2 hc2 hg2 hat2;obtain⟨hB3,hf3⟩:=za8 hown (HM.out.bel.alloc HM.out.bel.size _) (HM.out.ft.alloc _) hg2;have d0:w3.cell? ⟨w.heap.size,0,none⟩=some (.int .i64 0):=(hf3.cell 0);have d1:w3.cell? ⟨w.heap.size,1,none⟩=some (.int .i64 0):=(hf3.cell 1);have f0:=hf3.frozen 0;have f1:=hf3.frozen 1))
         clear d0 d1 f0 f1;refine Handed.intro (s.size-(k)) ?_ (hJ _ _ _ ⟨k,ts++[⟨2,t,0,j⟩],A2,c2,rfl,HM.out.app (t:=⟨2,t,0,j⟩) (HM.out.ft.alloc _) (HM.out.bel.alloc HM.out.bel.size _) om om hg2 hown2 HTK.out,rfl,rfl,rfl,rfl,by rw[la9];rfl,by show Value.int _ _=_;first|rfl|go_num⟩);have:=HGK.out;omega
      | false =>
       have HTK:=qh (HTOK.out 1 (by rw[hres];rfl)).2
       rcases hcase with h|⟨h,a1,a2⟩
       all_goals
         go_wp2_with (first|(go_at_call 57;refine(za5 _ _).mono ?_;rintro e w' ⟨rfl,rfl⟩)| (go_at_call 58;refine(zbf _ _).mono ?_;rintro e w' ⟨rfl,rfl⟩)| (go_at_call 59;refine(zj4 t _).mono ?_;rintro e w' ⟨rfl,rfl⟩)| (at_builtin;refine zaf rfl (.tmp 84) (.tmp 92) _ rfl (w.heap.size+1) 72 4 40 Tryz.underlying65 eTok (.slice A ts.length c) ts.length (toksCells ts) rr (by exact hown.alloc _) (some ⟨wr.heap.size,0,none⟩) 1 1 [.int .i64 1,.string (bytesOf t),.int .i64 0,.int .i64 j] rr (by exact RdS.new wr _ [.int .i64 1,.string (bytesOf t),.int .i64 0,.int .i64 j] 4 rfl) (by simp[Value.oneCell']) om om (by simp;omega) ?_;intro A2 c2 w3 hown2 hc2 hg2 hat2;obtain⟨hB3,hf3⟩:=za8 hown (HM.out.bel.alloc HM.out.bel.size _) (HM.out.ft.alloc _) hg2;have d0:w3.cell? ⟨w.heap.size,0,none⟩=some (.int .i64 0):=(hf3.cell 0);have d1:w3.cell? ⟨w.heap.size,1,none⟩=some (.int .i64 0):=(hf3.cell 1);have f0:=hf3.frozen 0;have f1:=hf3.frozen 1))
         clear d0 d1 f0 f1;refine Handed.intro (s.size-(k)) ?_ (hJ _ _ _ ⟨k,ts++[⟨1,t,0,j⟩],A2,c2,rfl,HM.out.app (t:=⟨1,t,0,j⟩) (HM.out.ft.alloc _) (HM.out.bel.alloc HM.out.bel.size _) om om hg2 hown2 HTK.out,rfl,rfl,rfl,rfl,by rw[la9];rfl,by show Value.int _ _=_;first|rfl|go_num⟩);have:=HGK.out;omega
    · have e16:decide ((16:Int)<(k:Int)-(j:Int))=true:=by have:=HTL.out;simp;omega
      have HBD:Hid (R=.inl (s.data.toList.drop j)):=HM.out.res.trans (ze1 HX.out HBL.out H35.out (by rw[HTOKEN.out,if_pos om]))
      cases hres:Lx.reserved t with
      | true =>
       rcases hcase with h|⟨h,a1,a2⟩
       all_goals
         go_wp2_with (first|(go_at_call 57;refine(za5 _ _).mono ?_;rintro e w' ⟨rfl,rfl⟩)| (go_at_call 58;refine(zbf _ _).mono ?_;rintro e w' ⟨rfl,rfl⟩)| (go_at_call 59;refine(zj4 t _).mono ?_;rintro e w' ⟨rfl,rfl⟩)| (at_builtin;refine zaf rfl (.tmp 84) (.tmp 92) _ rfl (w.heap.size+1) 72 4 40 Tryz.underlying65 eTok (.slice A ts.length c) ts.length (toksCells ts) rr (by exact hown.alloc _) (some ⟨wr.heap.size,0,none⟩) 1 1 [.int .i64 2,.string (bytesOf t),.int .i64 0,.int .i64 j] rr (by exact RdS.new wr _ [.int .i64 2,.string (bytesOf t),.int .i64 0,.int .i64 j] 4 rfl) (by simp[Value.oneCell']) om om (by simp;omega) ?_;intro A2 c2 w3 hown2 hc2 hg2 hat2;obtain⟨hB3,hf3⟩:=za8 hown (HM.out.bel.alloc HM.out.bel.size _) (HM.out.ft.alloc _) hg2;have d0:w3.cell? ⟨w.heap.size,0,none⟩=some (.int .i64 0):=(hf3.cell 0);have d1:w3.cell? ⟨w.heap.size,1,none⟩=some (.int .i64 0):=(hf3.cell 1);have f0:=hf3.frozen 0;have f1:=hf3.frozen 1))
         refine bodyPost_ret (zav rfl _ w.heap.size 29 [.int .i64 9,.int .i64 j] rfl ((hf3.set_ 0 _).set_ 1 _) _ Tryz.underlying29 rfl hd48) rfl ?_;exact zcs hs HR.out HBD.out (by simp;omega) ((hB3.setCell lr _).setCell lr _)
      | false =>
       rcases hcase with h|⟨h,a1,a2⟩
       all_goals
         go_wp2_with (first|(go_at_call 57;refine(za5 _ _).mono ?_;rintro e w' ⟨rfl,rfl⟩)| (go_at_call 58;refine(zbf _ _).mono ?_;rintro e w' ⟨rfl,rfl⟩)| (go_at_call 59;refine(zj4 t _).mono ?_;rintro e w' ⟨rfl,rfl⟩)| (at_builtin;refine zaf rfl (.tmp 84) (.tmp 92) _ rfl (w.heap.size+1) 72 4 40 Tryz.underlying65 eTok (.slice A ts.length c) ts.length (toksCells ts) rr (by exact hown.alloc _) (some ⟨wr.heap.size,0,none⟩) 1 1 [.int .i64 1,.string (bytesOf t),.int .i64 0,.int .i64 j] rr (by exact RdS.new wr _ [.int .i64 1,.string (bytesOf t),.int .i64 0,.int .i64 j] 4 rfl) (by simp[Value.oneCell']) om om (by simp;omega) ?_;intro A2 c2 w3 hown2 hc2 hg2 hat2;obtain⟨hB3,hf3⟩:=za8 hown (HM.out.bel.alloc HM.out.bel.size _) (HM.out.ft.alloc _) hg2;have d0:w3.cell? ⟨w.heap.size,0,none⟩=some (.int .i64 0):=(hf3.cell 0);have d1:w3.cell? ⟨w.heap.size,1,none⟩=some (.int .i64 0):=(hf3.cell 1);have f0:=hf3.frozen 0;have f1:=hf3.frozen 1))
         refine bodyPost_ret (zav rfl _ w.heap.size 29 [.int .i64 9,.int .i64 j] rfl ((hf3.set_ 0 _).set_ 1 _) _ Tryz.underlying29 rfl hd48) rfl ?_;exact zcs hs HR.out HBD.out (by simp;omega) ((hB3.setCell lr _).setCell lr _)
end Go.Proofs.YtafjkbbiaopemaaGreatDoor
