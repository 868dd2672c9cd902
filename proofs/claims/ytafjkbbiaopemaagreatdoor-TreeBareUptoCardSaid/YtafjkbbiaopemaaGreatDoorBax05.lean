/- Part of the proof. -/
import Derived.Lib.Builder
import Derived.Lib.AppendStr
import Derived.Lib.UnsafeStr
import Derived.Laws.Externs
import Derived.Test.YtafjkbbiaopemaaGreatDoorBax03
set_option linter.all false
set_option maxRecDepth 100000
set_option maxHeartbeats 0
namespace Go.Proofs.YtafjkbbiaopemaaGreatDoor.Tr
open Go.RowKit
section
structure IsP(B b:Nat)(l:List UInt8)(w:World):Prop where
 hB:B≤b
 ex:∃p v,(p=none∨p=some (⟨b,0,none⟩:Addr))∧Blk w b 87 [.pointer p,v]∧w.ownsRow B 5 1 v l.length (u8s l)∧v.ownBlock≠some b
theorem bdSize:(Tryz.prog.info? 85)=some ((Tryz.prog.info? 85).getD default):=by kernel_rfl
theorem bdLies:liesAt Tryz.prog Tryz.prog.depth 87 (2 / Tryz.prog.cellsOf 87) 0 85 1=true:=by kernel_rfl
theorem bdS2:(((Tryz.prog.info? 85).getD default).size)=2:=by kernel_rfl
section
variable{w w':World}{b B:Nat}{p:Option Addr}{v:Value}{l:List UInt8}
theorem zjv{t:TypeId}{cs:List Value}(h:Blk w b t cs):w.shape? b=some (t,cs.length):=by
 unfold Blk at h
 simp[World.shape?,h]
theorem zhl(hb:Blk w b 87 [.pointer p,v])(hp:p=none∨p=some ⟨b,0,none⟩):
 Calls Tryz.prog 115 #[.pointer (some ⟨b,0,none⟩)] w fun e w'=>e=.returned (.tuple #[])∧Blk w' b 87 [.pointer (some ⟨b,0,none⟩),v]∧Only w w' b:=by
 have h0:=hb.cell 0;have hf:=hb.frozen 0;have hsh:=zjv hb
 rcases hp with rfl|rfl
 · have c0:w.cell? ⟨b,0,none⟩=some (.pointer none):=h0
   go_enter Tryz.func115, Tryz.ntmps115
   go_wp2;rw[Lib.run_to_unsafe w ⟨b,0,none⟩ Tryz.underlying82 Tryz.underlying153 bdSize (by rw[bdS2];decide) hsh sy];simp only[Result.andThen];rw[Oper.upon_value];go_wp2;rw[run_callFunc_extern Tryz.func129 kr kr kr (e:=Extern.AbiNoEscape.same) kr];rw[Lib.run_noEscape];simp only[Result.andThen];rw[Oper.upon_value];go_wp2;rw[Lib.run_from_unsafe w ⟨b,0,none⟩ Tryz.underlying153 Tryz.underlying82 bdSize hsh bdLies];simp only[Result.andThen];rw[Oper.upon_value];go_wp2
   go_end0
   exact⟨rfl,hb.set_ 0 _,(Only.refl w b).setCell 0 _⟩
 · have c0:w.cell? ⟨b,0,none⟩=some (.pointer (some ⟨b,0,none⟩)):=h0
   go_enter Tryz.func115, Tryz.ntmps115
   go_wp2;rw[Lib.run_neq_ptr_same w _ Tryz.underlying82 bdSize];go_wp2
   go_end0
   exact⟨rfl,hb,Only.refl _ _⟩
theorem zen{w w':World}{base n g:Nat}{e:TypeId}{size:Nat}{v:Value}{xs:List Value}(h:w.ownsRow base e size v n xs)(ho:Only w w' g)(hne:∀k,v.ownBlock=some k→k≠g):w'.ownsRow base e size v n xs:=by
 refine h.kept ho.grown ?_
 cases hv:v.ownBlock with
 | none=>exact .inl rfl
 | some k=>exact .inr (fun e=>hne k hv (by injection e))
theorem zpr:(Tryz.prog.info? 5)=some ((Tryz.prog.info? 5).getD default):=by kernel_rfl
theorem znf:((Tryz.prog.info? 5).getD default).zero=some (.int .u8 0):=by kernel_rfl
theorem zng:((Tryz.prog.info? 5).getD default).size=1:=by kernel_rfl
theorem znh:((Tryz.prog.info? 5).getD default).bytes=1:=by kernel_rfl
theorem tp_ne:(87 : TypeId)≠5:=by decide
theorem zna{v:Value}{n:Nat}{xs:List Value}(h:w.ownsRow B 5 1 v n xs){cs:List Value}(hb:Blk w b 87 cs):v.ownBlock≠some b:=by
 intro e
 rcases h.2 with ⟨hv,_⟩|⟨g,cap,cur,hv,_,hg,_⟩
 · rw[hv]at e;cases e
 · rw[hv]at e
   injection e with e
   simp only at e;subst e
   unfold Blk at hb
   rw[hb]at hg
   injection hg with hg
   injection hg with _ h2
   exact tp_ne h2
def Oth(b:Nat)(w w':World):Prop:=w.heap.size≤w'.heap.size∧∀(k:Nat) (o:Obj),w.heap[k]? = some o→k≠b→(∀c f,o≠.cells c 5 f)→w'.heap[k]? = some o
theorem Oth.refl(b:Nat)(w:World):Oth b w w:=⟨lr,fun _ _ h _ _=>h⟩
theorem Oth.trans{b:Nat}{w w1 w2:World}(h:Oth b w w1)(k:Oth b w1 w2):Oth b w w2:=⟨Nat.le_trans h.1 k.1,fun i o h1 h2 h3=>k.2 i o (h.2 i o h1 h2 h3) h2 h3⟩
theorem Oth.blk{b g:Nat}{w w':World}{t:TypeId}{cs:List Value}(h:Oth b w w')(hb:Blk w g t cs)(hg:g≠b)(ht:t≠5):Blk w' g t cs:=h.2 g _ hb hg (fun c f e=>by injection e with _ e;exact ht e)
theorem Oth.only{b:Nat}{w w':World}(h:Only w w' b):Oth b w w':=⟨h.grown.size,fun k o h1 h2 _=>(h.grown.block k (Array.getElem?_eq_some_iff.1 h1).1 (fun e=>h2 (by injection e))).trans h1⟩
theorem Oth.alloc(b:Nat)(w:World)(o:Obj):Oth b w (w.alloc o):=⟨by simp,fun k o' h1 _ _=>(Below.heap_alloc w o k (Array.getElem?_eq_some_iff.1 h1).1).trans h1⟩
theorem Oth.grown{b n:Nat}{w w':World}{v:Value}{xs:List Value}(hown:w.ownsRow B 5 1 v n xs)(hg:w.grownBy w' v.ownBlock):Oth b w w':=⟨hg.size,fun k o h1 h2 h3=>by
 refine(hg.block k (Array.getElem?_eq_some_iff.1 h1).1 (fun e=>?_)).trans h1
 rcases hown.2 with ⟨hv,_⟩|⟨g,cap,cur,hv,_,hgk,_⟩
 · rw[hv]at e;cases e
 · rw[hv]at e
   injection e with e
   subst e;rw[h1]at hgk
   injection hgk with hgk
   exact h3 _ _ hgk⟩
theorem wstr_c(s:ByteArray)(h:IsP B b l w)(hB:B≤w.heap.size)(hlen:l.length+s.size≤140737488355328):
 Calls Tryz.prog 92 #[.pointer (some ⟨b,0,none⟩),.string s] w fun e w'=>e=.returned (.tuple #[.int .i64 s.size,.nilIface])∧IsP B b (l++s.data.toList) w'∧Below B w w'∧Oth b w w':=by
 obtain⟨hBb,p,v,hp,hb,hown,hne⟩:=h;have HC:=qh (zhl hb hp);have HO:Hid (∀W,Only w W b→W.ownsRow B 5 1 v l.length (u8s l)):=fun W ho=>zen hown ho (fun k hk e=>hne (e ▸ hk))
 have HN:=qh (And.intro hne (fun k hk=>(hown.lt k hk).1));clear hb hown hne hp
 go_enter Tryz.func92, Tryz.ntmps92
 go_wp2_with (first
  | (go_at_call 115;(refine HC.out.mono ?_);rintro e w1 ⟨rfl,hb1,ho1⟩;have c1:w1.cell? ⟨b,1,none⟩=some v:=hb1.cell 1;have HO1:=qh (And.intro hb1 ho1);clear hb1 ho1)
  | (at_builtin;refine Lib.wpList_append_own_string _ rfl (.tmp 12) (.tmp 13) 83 9 rfl B 5 _ Tryz.underlying83 Tryz.underlying9 zpr znf zng znh v l.length (u8s l) rr (HO.out w1 HO1.out.2) s rr (by unfold maxLen;omega) om (by have:=HO1.out.2.grown.size;omega) ?_;intro v' w2 hown2 hgrow hnil;have hb2:Blk w2 b 87 [.pointer (some ⟨b,0,none⟩),v]:=HO1.out.1.grown hgrow (fun e=>HN.out.1 e.symm);have HW2:=qh (And.intro hown2 (And.intro hgrow hb2));have d1:w2.cell? ⟨b,1,none⟩=some v:=hb2.cell 1;have f1:=hb2.frozen 1
     obtain⟨A',n',c',rfl⟩:∃A' n' c',v'=.slice A' n' c':=by
      rcases hown2.2 with ⟨hv,_⟩|⟨g,cap,cur,hv,_⟩
      · exact⟨_,_,_,hv⟩
      · exact⟨_,_,_,hv⟩
     clear hown2 hgrow hb2 hnil))
 refine bodyPost_ret (results_tmp2 rfl _ _ _) rfl ?_;have hb3:Blk (w2.setCell ⟨b,1,none⟩ (.slice A' n' c')) b 87 [.pointer (some ⟨b,0,none⟩),.slice A' n' c']:=HW2.out.2.2.set_ 1 _;have hne2:=zna HW2.out.1 HW2.out.2.2;have hB1:Below B w w1:=HO1.out.2.below (Below.refl _ _) hBb hB;have hB2:Below B w w2:=hB1.grown HW2.out.2.1 (by have:=hB1.size;omega) HN.out.2;refine⟨rfl,⟨hBb,some ⟨b,0,none⟩,_,.inr rfl,hb3,?_,hne2⟩,hB2.setCell (p:=⟨b,1,none⟩) hBb _,((Oth.only HO1.out.2).trans (Oth.grown (HO.out w1 HO1.out.2) HW2.out.2.1)).trans (Oth.only ((Only.refl w2 b).setCell 1 _))⟩;have h5:=zen HW2.out.1 ((Only.refl w2 b).setCell 1 (.slice A' n' c')) (fun k hk e=>hne2 (e ▸ hk));have e1:(l++s.data.toList).length=l.length+s.size:=by rw[la9,Array.length_toList];rfl
 have e2:u8s (l++s.data.toList)=u8s l++Lib.strCells s:=by rw[zbc];rfl
 rw[e1,e2];exact h5
end
end
section
def flatS(L:List ByteArray):List UInt8:=(L.map fun s=>s.data.toList).flatten
theorem zjc(L:List ByteArray)(s:ByteArray):flatS (L++[s])=flatS L++s.data.toList:=by simp[flatS]
section
variable{w w':World}{b B g:Nat}{l:List UInt8}
theorem zoj(L:List ByteArray)(n c:Nat)(hn:L.length=n)(hn8:n≤1000000)(h:IsP B b l w)(hB:B≤w.heap.size)(hs:Blk w g 9 (strs L))(hg:g≠b)(hlen:l.length+(flatS L).length≤140737488355328):
 Calls Tryz.prog 70 #[.pointer (some ⟨b,0,none⟩),.slice (some ⟨g,0,none⟩) n c] w fun e w'=>e=.returned (.tuple #[])∧IsP B b (l++flatS L) w'∧Below B w w'∧Oth b w w':=by
 have HN:=qh hn;have HW:=qh (fun W l' s (h:IsP B b l' W) hB hlen=>wstr_c (w:=W) s h hB hlen);have H0:Hid (IsP B b (l++flatS (L.take 0)) w∧Below B w w∧Oth b w w):=⟨by simpa[flatS] using h,Below.refl _ _,Oth.refl _ _⟩;have HS:=qh hs
 have HL:Hid (∀j,j<n→(l++flatS (L.take j)).length+(L[j]?.getD ByteArray.empty).size≤140737488355328):=fun j hj=>by
  have h1:L=L.take j++(L[j] :: L.drop (j+1)):=by rw[←List.drop_eq_getElem_cons om,List.take_append_drop]
  have h2:(flatS L).length=(flatS (L.take j)).length+L[j].size+(flatS (L.drop (j+1))).length:=by
   conv=>lhs;rw[h1]
   simp only[flatS,List.map_append,List.map_cons,List.flatten_append,List.flatten_cons,List.length_append,Array.length_toList]
   show _+(L[j].size+_)=_
   omega
  rw[ge9 om,Option.getD_some,la9];omega
 clear h hs hlen hn
 go_enter Tryz.func70, Tryz.ntmps70
 go_wp2
 go_loopg [8] n (fun kk q wr=>∃j:Nat,j≤n∧kk=n-j∧q=.int .i64 (j:Int)∧Hid (IsP B b (l++flatS (L.take j)) wr∧Below B w wr∧Oth b w wr))
 case atStart=>exact⟨0,by omega,by omega,rfl,H0⟩
 case round =>
  clear H0;obtain⟨j,hj,hk,rfl,HR⟩:=hrel
  rcases Nat.eq_or_lt_of_le hj with rfl|hlt
  · have hnl:¬(j:Int)<(j:Int):=om
    clear hk hj HW HL;go_wp2
    go_end0
    obtain⟨r1,r2,r3⟩:=HR.out;rw[tk (by have:=HN.out;omega)]at r1;exact⟨rfl,r1,r2,r3⟩
  · have hlt2:(j:Int)<(n:Int):=om
    have hjl:j<L.length:=by have:=HN.out;omega
    have hb:=HR.out.2.2.blk HS.out hg (by decide);have hc:wr.cell? ⟨g,j,none⟩=some (.string L[j]):=by rw[hb.cell];simp[strs,hjl]
    have hgl:=hb.lt;have HH:=HL.out j hlt;rw[ge9 hjl,Option.getD_some]at HH;have HCC:=qh (HW.out wr _ L[j] HR.out.1 (Nat.le_trans hB HR.out.2.1.size) HH)
    have e5:l++flatS (L.take j)++L[j].data.toList=l++flatS (L.take (j+1)):=by
     rw[show L.take (j+1)=L.take j++[L[j]] by rw[List.take_add_one,ge9 hjl];rfl,zjc,as9]
    rw[e5]at HCC;clear hb HH e5 HL HW;generalize L[j]=S at *
    go_wp2_with (go_at_call 92;(refine HCC.out.mono ?_);rintro e w2 ⟨rfl,hp2,hB2,ho2⟩;have H2:Hid (IsP B b (l++flatS (L.take (j+1))) w2∧Below B w w2∧Oth b w w2):=⟨hp2,HR.out.2.1.trans hB2,HR.out.2.2.trans ho2⟩;clear hp2 hB2 ho2)
    go_roundg (gk-1)
    case measure=>omega
    case rel=>exact⟨j+1,by omega,by omega,by simp,H2⟩
end
end
end Go.Proofs.YtafjkbbiaopemaaGreatDoor.Tr
