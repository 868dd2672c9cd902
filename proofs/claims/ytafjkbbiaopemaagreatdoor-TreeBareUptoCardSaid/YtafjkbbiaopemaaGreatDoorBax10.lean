/- Part of the proof. -/
import Derived.Test.YtafjkbbiaopemaaGreatDoorBax08
set_option linter.all false
set_option maxRecDepth 100000
set_option maxHeartbeats 0
namespace Go.Proofs.YtafjkbbiaopemaaGreatDoor.Tr
open Go.RowKit
section
def paC(gs:Nat)(s:PS):List Value:=[.pointer (some ⟨gs,0,none⟩),.int .i64 s.fe,.int .i64 s.fa,.int .i64 s.bo,.int .i64 s.pa]
structure Cx(gp gs:Nat)(A:Option Addr)(n:Nat)(ts:List Lx.Tok):Prop where
 ne:gp≠gs
 tk:∀ad:Addr,A=some ad→ad.block≠gp∧ad.block≠gs
 hn:ts.length=n
 hn8:n≤100000
 ends:Ends ts
structure PSt(gp gs:Nat)(A:Option Addr)(n c:Nat)(ts:List Lx.Tok)(s:PS)(w:World):Prop where
 par:Blk w gp 60 (paC gs s)
 stm:Stm gs A n c s.i ts w
 z:s.ok=true→s.fe=0∧s.fa=0
 lt:s.i<ts.length
section
variable{gp gs:Nat}{A:Option Addr}{n c:Nat}{ts:List Lx.Tok}{s:PS}{w w':World}
theorem PSt.below(h:PSt gp gs A n c ts s w)(hb:Below w.heap.size w w'):PSt gp gs A n c ts s w':=⟨h.par.below hb h.par.lt,h.stm.below hb,h.z,h.lt⟩
theorem PSt.alloc(h:PSt gp gs A n c ts s w)(o:Obj):PSt gp gs A n c ts s (w.alloc o):=h.below ((Below.refl _ _).alloc lr o)
theorem RdS.set_far{sz:Nat}{xs:List Value}(h:RdS sz w A n xs){p:Addr}(hp:∀ad:Addr,A=some ad→ad.block≠p.block)(v:Value):RdS sz (w.setCell p v) A n xs:=by
 refine⟨h.1,fun hn=>?_⟩;obtain⟨b,off,rfl,hb,hc⟩:=h.2 hn;refine⟨b,off,rfl,by simpa[World.setCell] using hb,fun j u hu=>?_⟩;exact(World.cell?_of_block (a:=⟨b,off+j,none⟩) (Below.heap_setCell w p v b (fun e=>hp _ rfl e))).trans (hc j u hu)
theorem Stm.far{g:Nat}{i:Nat}(h:Stm g A n c i ts w){p:Addr}(hg:g≠p.block)(hA:∀ad:Addr,A=some ad→ad.block≠p.block)(v:Value):Stm g A n c i ts (w.setCell p v):=⟨h.1.far hg v,RdS.set_far h.2 hA v⟩
theorem Wr.setCell{L:List Nat}(h:Wr L w w'){p:Addr}(hp:p.block∈L)(v:Value):Wr L w (w'.setCell p v) :=
 ⟨h.os,h.tape,h.output,by have:=h.size;simpa[World.setCell] using this,fun k hk hL=>(Below.heap_setCell w' p v k (fun e=>hL (e ▸ hp))).trans (h.block k hk hL)⟩
theorem Wr.setNew{L:List Nat}(h:Wr L w w'){p:Addr}(hp:w.heap.size≤p.block)(v:Value):Wr L w (w'.setCell p v) :=
 ⟨h.os,h.tape,h.output,by have:=h.size;simpa[World.setCell] using this,fun k hk hL=>(Below.heap_setCell w' p v k om).trans (h.block k hk hL)⟩
theorem Wr.alloc{L:List Nat}(h:Wr L w w')(o:Obj):Wr L w (w'.alloc o):=h.trans (Wr.of_below ((Below.refl _ _).alloc lr o))
theorem Wr.mono{L M:List Nat}(h:Wr L w w')(hM:∀g∈L,g∈M):Wr M w w':=⟨h.os,h.tape,h.output,h.size,fun k hk hk2=>h.block k hk fun h3=>hk2 (hM k h3)⟩
theorem RdS.wrote'{sz g:Nat}{xs:List Value}(h:RdS sz w A n xs)(hw:Wrote g w w')(hb:∀ad:Addr,A=some ad→ad.block≠g):RdS sz w' A n xs :=
 ⟨h.1,fun hn=>by
  obtain⟨b,off,rfl,hbl,hc⟩:=h.2 hn
  exact⟨b,off,rfl,Nat.lt_of_lt_of_le hbl hw.size,fun j u hu=>(World.grownBy.cell_far hw ⟨b,off+j,none⟩ hbl (fun e=>hb _ rfl (by injection e))).trans (hc j u hu)⟩⟩
theorem ok_c(h:Blk w gp 60 (paC gs s)):Calls Tryz.prog 22 #[.pointer (some ⟨gp,0,none⟩)] w fun e w'=>e=.returned (.bool s.ok)∧w=w':=by
 have c1:w.cell? ⟨gp,1,none⟩=some (.int .i64 s.fe):=h.cell 1
 go_enter Tryz.func22, Tryz.ntmps22
 go_wp2;go_ret;exact⟨rfl,rfl⟩
theorem fld0(a b c d:Value)(W:World):(Instr.field 72 (.agg #[a,b,c,d]) 0).run Tryz.prog W=.ok a W:=by kernel_rfl
theorem fld1(a b c d:Value)(W:World):(Instr.field 72 (.agg #[a,b,c,d]) 1).run Tryz.prog W=.ok b W:=by kernel_rfl
theorem zgn(cx:Cx gp gs A n ts)(h:PSt gp gs A n c ts s w)(k:Nat):Calls Tryz.prog 23 #[.pointer (some ⟨gp,0,none⟩),.int .i64 (k:Int)] w fun e w'=>e=.returned (.bool (kindIs ts k s))∧Below w.heap.size w w':=by
 have HO:=qh (fun w (h:Blk w gp 60 (paC gs s))=>ok_c h);have HP:=qh (fun W (h:Stm gs A n c s.i ts W)=>zdn gs A n c s.i ts W h.1 h.2 cx.hn cx.hn8);have HH:=qh h;have c0:w.cell? ⟨gp,0,none⟩=some (.pointer (some ⟨gs,0,none⟩)):=h.par.cell 0;have HK:Hid (kindIs ts k s=(s.ok && decide ((tokAt ts s.i).kind=k))):=rfl;clear h;generalize tokAt ts s.i=t at *
 unfold tokCells at HP
 have hf:=fld0 (.int .i64 t.kind) (.string (bytesOf t.text)) (.int .i64 t.num) (.int .i64 t.at_);generalize s.ok=b at *
 cases b
 · go_enter Tryz.func23, Tryz.ntmps23
   go_wp2_with (go_at_call 22;(refine(HO.out _ (by exact HH.out.par)).mono ?_);rintro e w1 ⟨rfl,rfl⟩)
   go_ret;exact⟨by rw[HK.out];rfl,Below.refl _ _⟩
 · go_enter Tryz.func23, Tryz.ntmps23
   go_wp2_with (first
    | (go_at_call 22;(refine(HO.out _ (by exact HH.out.par)).mono ?_);rintro e w1 ⟨rfl,rfl⟩)
    | (go_at_call 53;(refine(HP.out _ (by exact HH.out.stm)).mono ?_);rintro e w2 ⟨rfl,hB2⟩))
   go_ret;refine⟨zd6 (a:=((t.kind:Int) == (k:Int))) ?_,hB2⟩;rw[HK.out,Bool.true_and,Bool.eq_iff_iff]
   simp
   omega
theorem zb1(cx:Cx gp gs A n ts)(h:PSt gp gs A n c ts s w)(l:List ByteArray)(A1:Option Addr)(n1 c1:Nat)(hl:Rd w A1 n1 (strs l))(hn1:n1≤140737488355328):Calls Tryz.prog 20 #[.pointer (some ⟨gp,0,none⟩),.slice A1 n1 c1] w fun e w'=>e=.returned (.bool (sees ts l s))∧Below w.heap.size w w':=by
 have HO:=qh (fun w (h:Blk w gp 60 (paC gs s))=>ok_c h);have HI:=qh (fun W (h:Stm gs A n c s.i ts W) (h2:Rd W A1 n1 (strs l))=>zk1 gs A n c s.i ts (tokAt ts s.i) A1 n1 c1 l W h.1 h.2 cx.hn cx.hn8 rfl h2 hn1);have HH:=qh h;have HL:=qh hl;have c0:w.cell? ⟨gp,0,none⟩=some (.pointer (some ⟨gs,0,none⟩)):=h.par.cell 0;have HK:Hid (sees ts l s=(s.ok && isOf (tokAt ts s.i) l)):=rfl;clear h hl;generalize isOf (tokAt ts s.i) l=t at *;generalize s.ok=b at *
 cases b
 · go_enter Tryz.func20, Tryz.ntmps20
   go_wp2_with (go_at_call 22;(refine(HO.out _ (by exact HH.out.par)).mono ?_);rintro e w1 ⟨rfl,rfl⟩)
   go_ret;exact⟨by rw[HK.out];rfl,Below.refl _ _⟩
 · go_enter Tryz.func20, Tryz.ntmps20
   go_wp2_with (first
    | (go_at_call 22;(refine(HO.out _ (by exact HH.out.par)).mono ?_);rintro e w1 ⟨rfl,rfl⟩)
    | (go_at_call 46;(refine(HI.out _ (by exact HH.out.stm) (by exact HL.out)).mono ?_);rintro e w2 ⟨rfl,hB2⟩))
   go_ret;exact⟨by rw[HK.out];rfl,hB2⟩
theorem zgt(cx:Cx gp gs A n ts)(h:PSt gp gs A n c ts s w)(e0:Int)(he:e0≠0):Calls Tryz.prog 54 #[.pointer (some ⟨gp,0,none⟩),.int .i64 e0] w fun e w'=>e=.returned (.tuple #[])∧PSt gp gs A n c ts (failP ts e0 s) w'∧Wr [gp] w w':=by
 have HO:=qh (fun w (h:Blk w gp 60 (paC gs s))=>ok_c h);have HP:=qh (fun W (h:Stm gs A n c s.i ts W)=>zdn gs A n c s.i ts W h.1 h.2 cx.hn cx.hn8);have HH:=qh h;have c0:w.cell? ⟨gp,0,none⟩=some (.pointer (some ⟨gs,0,none⟩)):=h.par.cell 0
 cases hb:s.ok
 · have HF:Hid (failP ts e0 s=s):=(by show _=_;unfold failP;rw[hb];rfl)
   rw[hb]at HO;clear h hb
   go_enter Tryz.func54, Tryz.ntmps54
   go_wp2_with (go_at_call 22;(refine(HO.out _ (by exact HH.out.par)).mono ?_);rintro e w1 ⟨rfl,rfl⟩)
   refine bodyPost_end (results_none rfl _ _ _) rfl ⟨rfl,?_,Wr.refl _ _⟩;rw[HF.out];exact HH.out
 · have HF:Hid (failP ts e0 s = { s with fe:=e0,fa:=((tokAt ts s.i).at_:Int) }):=(by show _=_;unfold failP;rw[hb];rfl)
   rw[hb]at HO;clear h hb;have hf:=fld3 (.int .i64 (tokAt ts s.i).kind) (.string (bytesOf (tokAt ts s.i).text)) (.int .i64 (tokAt ts s.i).num) (.int .i64 (tokAt ts s.i).at_);generalize tokAt ts s.i=t at *
   unfold tokCells at HP
   go_enter Tryz.func54, Tryz.ntmps54
   go_wp2_with (first
    | (go_at_call 22;(refine(HO.out _ (by exact HH.out.par)).mono ?_);rintro e w1 ⟨rfl,rfl⟩)
    | (go_at_call 53;(refine(HP.out _ (by exact HH.out.stm)).mono ?_);rintro e w2 ⟨rfl,hB2⟩;have H2:=qh (HH.out.below hB2);have c1:w2.cell? ⟨gp,1,none⟩=some (.int .i64 s.fe):=H2.out.par.cell 1;have c2:w2.cell? ⟨gp,2,none⟩=some (.int .i64 s.fa):=H2.out.par.cell 2;have f1:=H2.out.par.frozen 1;have f2:=H2.out.par.frozen 2))
   have h3:=(H2.out.par.set_ 1 (.int .i64 e0)).set_ 2 (.int .i64 (t.at_:Int));refine bodyPost_end (results_none rfl _ _ _) rfl ⟨rfl,?_,((Wr.of_below hB2).setCell sy _).setCell sy _⟩;rw[HF.out];refine⟨h3,Stm.far (Stm.far H2.out.stm cx.ne.symm (fun ad e=>(cx.tk ad e).1) _) cx.ne.symm (fun ad e=>(cx.tk ad e).1) _,fun h=>?_,H2.out.lt⟩
   exfalso
   have:(e0 == 0)=true:=h
   simp at this
   exact he this
theorem zbk(cx:Cx gp gs A n ts)(h:PSt gp gs A n c ts s w)(T:ByteArray):Calls Tryz.prog 49 #[.pointer (some ⟨gp,0,none⟩),.string T] w fun e w'=>e=.returned (.tuple #[])∧PSt gp gs A n c ts (takeP ts T s) w'∧Wr [gp,gs] w w':=by
 have HO:=qh (fun w (h:Blk w gp 60 (paC gs s))=>ok_c h);have HH:=qh h;have c0:w.cell? ⟨gp,0,none⟩=some (.pointer (some ⟨gs,0,none⟩)):=h.par.cell 0
 cases hb:s.ok
 · have HF:Hid (takeP ts T s=s):=(by show _=_;unfold takeP;rw[hb];rfl)
   rw[hb]at HO;clear h hb
   go_enter Tryz.func49, Tryz.ntmps49
   go_wp2_with (go_at_call 22;(refine(HO.out _ (by exact HH.out.par)).mono ?_);rintro e w1 ⟨rfl,rfl⟩)
   refine bodyPost_end (results_none rfl _ _ _) rfl ⟨rfl,?_,Wr.refl _ _⟩;rw[HF.out];exact HH.out
 · have hz:=h.z hb
   cases hi:isOf (tokAt ts s.i) [T]
   · have HF:Hid (takeP ts T s = { s with fe:=9,fa:=((tokAt ts s.i).at_:Int) }):=(by show _=_;unfold takeP;rw[hb,show isOf (pk ts s) [T]=false from hi];rfl)
     have HT:=qh (fun W (h:Stm gs A n c s.i ts W)=>zom gs A n c s.i ts (tokAt ts s.i) T W h cx.hn cx.hn8 rfl hi);rw[hb]at HO;clear h hb hi;generalize tokAt ts s.i=t at *
     go_enter Tryz.func49, Tryz.ntmps49
     go_wp2_with (first
      | (go_at_call 22;(refine(HO.out _ (by exact HH.out.par)).mono ?_);rintro e w1 ⟨rfl,rfl⟩)
      | (go_at_call 82;(refine(HT.out _ (by exact HH.out.stm)).mono ?_);rintro e w2 ⟨rfl,hB2⟩;have H2:=qh (HH.out.below hB2);have c1:w2.cell? ⟨gp,1,none⟩=some (.int .i64 s.fe):=H2.out.par.cell 1;have c2:w2.cell? ⟨gp,2,none⟩=some (.int .i64 s.fa):=H2.out.par.cell 2;have f1:=H2.out.par.frozen 1;have f2:=H2.out.par.frozen 2))
     have h3:=(H2.out.par.set_ 1 (.int .i64 9)).set_ 2 (.int .i64 (t.at_:Int));refine bodyPost_end (results_none rfl _ _ _) rfl ⟨rfl,?_,((Wr.of_below hB2).setCell sy _).setCell sy _⟩;rw[HF.out];exact⟨h3,Stm.far (Stm.far H2.out.stm cx.ne.symm (fun ad e=>(cx.tk ad e).1) _) cx.ne.symm (fun ad e=>(cx.tk ad e).1) _,fun h=>(by cases h),H2.out.lt⟩
   · have HF:Hid (takeP ts T s=nxt s):=(by show _=_;unfold takeP;rw[hb,show isOf (pk ts s) [T]=true from hi];rfl)
     have hlt:s.i+1<ts.length:=zhf cx.ends (s:=s) hi;have HT:=qh (fun W (h:Stm gs A n c s.i ts W)=>zlx gs A n c s.i ts (tokAt ts s.i) T W h cx.hn cx.hn8 (by have:=cx.hn;have:=cx.hn8;omega) rfl hi);have HLT:=qh hlt;have HOK:=qh hb;rw[hb]at HO;clear h hb hi hlt
     go_enter Tryz.func49, Tryz.ntmps49
     go_wp2_with (first
      | (go_at_call 22;(refine(HO.out _ (by exact HH.out.par)).mono ?_);rintro e w1 ⟨rfl,rfl⟩)
      | (go_at_call 82;(refine(HT.out _ (by exact HH.out.stm)).mono ?_);rintro e w2 ⟨rfl,hb2,hW2⟩;have H2:=qh (HH.out.par.wrote hW2 cx.ne);have HR2:Hid (RdS 4 w2 A n (toksCells ts)):=RdS.wrote' HH.out.stm.2 hW2 (fun ad e=>(cx.tk ad e).2);have c1:w2.cell? ⟨gp,1,none⟩=some (.int .i64 s.fe):=H2.out.cell 1;have c2:w2.cell? ⟨gp,2,none⟩=some (.int .i64 s.fa):=H2.out.cell 2;have f1:=H2.out.frozen 1;have f2:=H2.out.frozen 2;have HB2:=qh hb2;clear hb2))
     have h3:=(H2.out.set_ 1 (.int .i64 0)).set_ 2 (.int .i64 0);refine bodyPost_end (results_none rfl _ _ _) rfl ⟨rfl,?_,((Wr.of_wrote hW2 sy).setCell sy _).setCell sy _⟩;rw[HF.out];have h4:Stm gs A n c (s.i+1) ts w2:=⟨HB2.out,HR2.out⟩;refine⟨?_,Stm.far (Stm.far h4 cx.ne.symm (fun ad e=>(cx.tk ad e).1) _) cx.ne.symm (fun ad e=>(cx.tk ad e).1) _,fun _=>hz,HLT.out⟩
     have h5:paC gs (nxt s)=[.pointer (some ⟨gs,0,none⟩),.int .i64 0,.int .i64 0,.int .i64 s.bo,.int .i64 s.pa]:=by
      simp[paC,nxt,hz.1,hz.2]
     rw[h5];exact h3
end
end
section
section
variable{gp gs:Nat}{A:Option Addr}{n c:Nat}{ts:List Lx.Tok}{s:PS}{w w':World}
theorem PSt.wrote(cx:Cx gp gs A n ts)(h:PSt gp gs A n c ts s w){i:Nat}(hw:Wrote gs w w')(hb:Blk w' gs 100 [.slice A n c,.int .i64 (i:Int)])(hi:i<ts.length):PSt gp gs A n c ts { s with i:=i } w' :=
 ⟨h.par.wrote hw cx.ne,⟨hb,RdS.wrote' h.stm.2 hw (fun ad e=>(cx.tk ad e).2)⟩,h.z,hi⟩
def PLo(gp gs:Nat)(A:Option Addr)(B:Nat):Prop:=gp<B∧gs<B∧∀ad:Addr,A=some ad→ad.block<B
theorem PSt.lo(cx:Cx gp gs A n ts)(h:PSt gp gs A n c ts s w):PLo gp gs A w.heap.size:=by
 refine⟨h.par.lt,h.stm.1.lt,fun ad e=>?_⟩;obtain⟨b,off,e2,hb,_⟩:=h.stm.2.2 (by have:=h.lt;have:=cx.hn;omega);rw[e]at e2
 injection e2 with e2
 subst e2;exact hb
theorem PSt.setNew{B:Nat}(h:PSt gp gs A n c ts s w)(hl:PLo gp gs A B){p:Addr}(hp:B≤p.block)(v:Value):PSt gp gs A n c ts s (w.setCell p v) :=
 ⟨h.par.far (by have:=hl.1;omega) v,Stm.far h.stm (by have:=hl.2.1;omega) (fun ad e=>by have:=hl.2.2 ad e;omega) v,h.z,h.lt⟩
theorem Blk.wr{g:Nat}{t:TypeId}{cs:List Value}{B:Nat}(h:Blk w g t cs)(hw:Wr [gp,gs] w w')(hl:PLo gp gs A B)(hg:B≤g):Blk w' g t cs:=(hw.block g h.lt (by have h1:=hl.1;have h2:=hl.2.1;simp only[List.mem_cons,List.not_mem_nil,or_false];omega)).trans h
theorem zcc(cx:Cx gp gs A n ts)(h:PSt gp gs A n c ts s w)(hk:(tokAt ts s.i).kind≠6):Calls Tryz.prog 47 #[.pointer (some ⟨gs,0,none⟩)] w fun e w'=>e=.returned (.agg (tokCells (tokAt ts s.i)).toArray)∧PSt gp gs A n c ts (nxt s) w'∧Wr [gp,gs] w w':=by
 have h1:=zh3 gs A n c s.i ts (tokAt ts s.i) w h.stm.1 h.stm.2 cx.hn cx.hn8 (by have:=h.lt;have:=cx.hn;have:=cx.hn8;omega) rfl;rw[if_neg hk]at h1;refine h1.mono ?_;rintro e w' ⟨rfl,hb,hW⟩;exact⟨rfl,h.wrote cx hW hb (cx.ends s.i hk),Wr.of_wrote hW sy⟩
def alsoP(ts:List Lx.Tok)(T:ByteArray)(s:PS):PS:=if sees ts [T] s then nxt s else s
theorem zjp{T:ByteArray}(h:sees ts [T] s=true):takeP ts T s=nxt s:=by
 unfold sees at h
 simp only[Bool.and_eq_true]at h
 unfold takeP
 rw[h.1,h.2]
 rfl
theorem zda(cx:Cx gp gs A n ts)(h:PSt gp gs A n c ts s w)(T:ByteArray):Calls Tryz.prog 52 #[.pointer (some ⟨gp,0,none⟩),.string T] w fun e w'=>e=.returned (.bool (sees ts [T] s))∧PSt gp gs A n c ts (alsoP ts T s) w'∧Wr [gp,gs] w w':=by
 have HS:=qh (fun W A1 (h:PSt gp gs A n c ts s W) (hl:Rd W A1 1 (strs [T]))=>zb1 cx h [T] A1 1 1 hl om);have HT:=qh (fun W (h:PSt gp gs A n c ts s W)=>zbk cx h T);have HH:=qh (h.alloc (.cells #[.string T] 9));have HE:Hid (Wr [gp,gs] w (w.alloc (.cells #[.string T] 9))):=(Wr.refl _ _).alloc _
 cases hs:sees ts [T] s
 · have HA:Hid (alsoP ts T s=s):=(by show _=_;unfold alsoP;rw[hs];rfl)
   rw[hs]at HS;clear h hs
   go_enter Tryz.func52, Tryz.ntmps52
   go_wp2_with (go_at_call 20;(refine(HS.out _ _ (by exact HH.out) (by exact Rd.new1' rfl)).mono ?_);rintro e w2 ⟨rfl,hB2⟩)
   go_ret;exact⟨rfl,by rw[HA.out];exact HH.out.below hB2,HE.out.trans (Wr.of_below hB2)⟩
 · have HA:Hid (alsoP ts T s=nxt s):=(by show _=_;unfold alsoP;rw[hs];rfl)
   have hk:(nxt s).ok=true:=(zag hs:s.ok=true);rw[zjp hs]at HT;rw[hs]at HS;have HO:=qh (fun w (h:Blk w gp 60 (paC gs (nxt s)))=>hk ▸ ok_c h);clear h hs hk
   go_enter Tryz.func52, Tryz.ntmps52
   go_wp2_with (first
    | (go_at_call 20;(refine(HS.out _ _ (by exact HH.out) (by exact Rd.new1' rfl)).mono ?_);rintro e w2 ⟨rfl,hB2⟩;have H2:=qh (HH.out.below hB2);have HE2:=qh (HE.out.trans (Wr.of_below hB2));clear hB2)
    | (go_at_call 49;(refine(HT.out _ (by exact H2.out)).mono ?_);rintro e w3 ⟨rfl,h3,hW3⟩;have H3:=qh h3;have HE3:=qh (HE2.out.trans hW3);clear h3 hW3)
    | (go_at_call 22;(refine(HO.out _ (by exact H3.out.par)).mono ?_);rintro e w4 ⟨rfl,rfl⟩))
   go_ret;exact⟨rfl,by rw[HA.out];exact H3.out,HE3.out⟩
theorem hdRf:(Tryz.prog.info? 36).map (·.size)=some 2:=by kernel_rfl
theorem ref_c(cx:Cx gp gs A n ts)(h:PSt gp gs A n c ts s w):Calls Tryz.prog 48 #[.pointer (some ⟨gp,0,none⟩)] w fun e w'=>e=.returned (.agg (rfC (refP ts s).1).toArray)∧PSt gp gs A n c ts (refP ts s).2 w'∧Wr [gp,gs] w w':=by
 have HKI:=qh (fun W (h:PSt gp gs A n c ts s W)=>zgn cx h 1);have HFA:=qh (fun W (h:PSt gp gs A n c ts s W)=>zgt cx h 9 (by decide));have HH:=qh (h.alloc (.cells #[.string { data:=#[] },.int .i64 0] 36));have HE:Hid (Wr [gp,gs] w (w.alloc (.cells #[.string { data:=#[] },.int .i64 0] 36))):=(Wr.refl _ _).alloc _;have HB:Hid (Blk (w.alloc (.cells #[.string { data:=#[] },.int .i64 0] 36)) w.heap.size 36 [.string { data:=#[] },.int .i64 0]):=Blk.new' rfl rfl;have HLO:=qh (h.lo cx);have hpl:=h.par.lt;have hsl:=h.stm.1.lt;have c0:∀W,Below (w.alloc (.cells #[.string { data:=#[] },.int .i64 0] 36)).heap.size (w.alloc (.cells #[.string { data:=#[] },.int .i64 0] 36)) W→W.cell? ⟨gp,0,none⟩=some (.pointer (some ⟨gs,0,none⟩)):=fun W hW=>(HH.out.below hW).par.cell 0
 have HC0:=qh c0;clear c0
 cases hk:kindIs ts 1 s
 · have HR:Hid (refP ts s=(zR,failP ts 9 s)):=(by show _=_;unfold refP;rw[hk];rfl)
   rw[HR.out];rw[hk]at HKI;clear h hk
   go_enter Tryz.func48, Tryz.ntmps48
   go_wp2_with (first
    | (go_at_call 23;(refine(HKI.out _ (by exact HH.out)).mono ?_);rintro e w2 ⟨rfl,hB2⟩;have H2:=qh (HH.out.below hB2);have HE2:=qh (HE.out.trans (Wr.of_below hB2));have HB2:=qbl HB hB2;clear hB2)
    | (go_at_call 54;(refine(HFA.out _ (by exact H2.out)).mono ?_);rintro e w3 ⟨rfl,h3,hW3⟩;have H3:=qh h3;have HE3:=qh (HE2.out.trans (hW3.mono sy));have HB3:Hid (Blk w3 w.heap.size 36 [.string { data:=#[] },.int .i64 0]):=(hW3.block _ HB2.out.lt (by simp;omega)).trans HB2.out;obtain⟨z0,z1,f0,f1⟩:=HB3.out.two;clear h3 hW3))
   refine bodyPost_ret (res_c rfl _ w.heap.size 36 [.string { data:=#[] },.int .i64 0] rfl (by exact(HB3.out.set_ 0 _).set_ 1 _) _ Tryz.underlying36 rfl hdRf) rfl ⟨rfl,?_,?_⟩
   · exact(H3.out.setNew HLO.out lr _).setNew HLO.out lr _
   · exact(HE3.out.setNew lr _).setNew lr _
 · have hk6:(tokAt ts s.i).kind≠6:=by
    unfold kindIs pk at hk
    simp only[Bool.and_eq_true,decide_eq_true_eq]at hk;omega
   have HNX:=qh (fun W (h:PSt gp gs A n c ts s W)=>zcc cx h hk6);have HR:Hid (refP ts s=(⟨bytesOf (tokAt ts s.i).text,((tokAt ts s.i).at_:Int)⟩,nxt s)):=(by show _=_;unfold refP;rw[hk];rfl);rw[HR.out];rw[hk]at HKI;clear h hk hk6;generalize tokAt ts s.i=t at *
   unfold tokCells at HNX
   go_enter Tryz.func48, Tryz.ntmps48
   go_wp2_with (first
    | (go_at_call 23;(refine(HKI.out _ (by exact HH.out)).mono ?_);rintro e w2 ⟨rfl,hB2⟩;have H2:=qh (HH.out.below hB2);have HE2:=qh (HE.out.trans (Wr.of_below hB2));have HB2:=qbl HB hB2;have c2:=HC0.out _ hB2;clear hB2)
    | (go_at_call 47;(refine(HNX.out _ (by exact H2.out)).mono ?_);rintro e w3 ⟨rfl,h3,hW3⟩;have H3:=qh h3;have HE3:=qh (HE2.out.trans hW3);have HB3:Hid (Blk w3 w.heap.size 36 [.string { data:=#[] },.int .i64 0]):=Blk.wr HB2.out hW3 HLO.out lr;obtain⟨z0,z1,f0,f1⟩:=HB3.out.two;have hz3:w.heap.size<w3.heap.size:=HB3.out.lt;clear h3 hW3))
   refine bodyPost_ret (res_c rfl _ w.heap.size 36 [.string (bytesOf t.text),.int .i64 t.at_] rfl (by exact((HB3.out.set_ 0 _).set_ 1 _).alloc _) _ Tryz.underlying36 rfl hdRf) rfl ⟨rfl,?_,?_⟩
   · exact((H3.out.setNew HLO.out lr _).setNew HLO.out lr _).alloc _
   · exact((HE3.out.setNew lr _).setNew lr _).alloc _
theorem znz(cx:Cx gp gs A n ts)(h:PSt gp gs A n c ts s w)(hp:0≤s.pa∧s.pa≤100):Calls Tryz.prog 113 #[.pointer (some ⟨gp,0,none⟩)] w fun e w'=>e=.returned (.tuple #[])∧PSt gp gs A n c ts (shutP ts s) w'∧Wr [gp,gs] w w':=by
 have HT:=qh (fun W (h:PSt gp gs A n c ts s W)=>zbk cx h m_rpar);have HH:=qh h;have hpa:(takeP ts m_rpar s).pa=s.pa:=(zar cx.ends m_rpar s).pa;have HS:Hid (shutP ts s = { takeP ts m_rpar s with pa:=(takeP ts m_rpar s).pa-1 }):=rfl;rw[HS.out];rw[←hpa]at hp;clear h hpa;generalize takeP ts m_rpar s=q at *;obtain⟨hp0,hp1⟩:=hp
 go_enter Tryz.func113, Tryz.ntmps113
 go_wp2_with (go_at_call 49;(refine(HT.out _ (by exact HH.out)).mono ?_);rintro e w2 ⟨rfl,h2,hW2⟩;have H2:=qh h2;have c4:w2.cell? ⟨gp,4,none⟩=some (.int .i64 q.pa):=h2.par.cell 4;have f4:=h2.par.frozen 4;clear h2)
 refine bodyPost_end (results_none rfl _ _ _) rfl ⟨rfl,⟨H2.out.par.set_ 4 _,Stm.far H2.out.stm cx.ne.symm (fun ad e=>(cx.tk ad e).1) _,H2.out.z,H2.out.lt⟩,hW2.setCell sy _⟩
def bndP(ts:List Lx.Tok)(T:ByteArray)(x:Int)(s:PS):PS:=if sees ts [T] s && x == 12 then failP ts 11 s else s
theorem zn4(cx:Cx gp gs A n ts)(h:PSt gp gs A n c ts s w)(hp:0≤s.pa∧s.pa≤100):Calls Tryz.prog 112 #[.pointer (some ⟨gp,0,none⟩)] w fun e w'=>e=.returned (.tuple #[])∧PSt gp gs A n c ts (openP ts s) w'∧Wr [gp,gs] w w':=by
 have HS:=qh (fun W A1 (h:PSt gp gs A n c ts s W) (hl:Rd W A1 1 (strs [m_lpar]))=>zb1 cx h [m_lpar] A1 1 1 hl om);have HF:=qh (fun W (h:PSt gp gs A n c ts s W)=>zgt cx h 11 (by decide));have HT:=qh (fun W s' (h:PSt gp gs A n c ts s' W)=>zbk cx h m_lpar);have HH:=qh (h.alloc (.cells #[.string m_lpar] 9));have HE:Hid (Wr [gp,gs] w (w.alloc (.cells #[.string m_lpar] 9))):=(Wr.refl _ _).alloc _;have HO:Hid (openP ts s = { takeP ts m_lpar (bndP ts m_lpar s.pa s)with pa:=(takeP ts m_lpar (bndP ts m_lpar s.pa s)).pa+1 }):=rfl;have hb1:Pg ts s (bndP ts m_lpar s.pa s):=by unfold bndP;split;exact zd3 s (.inr rfl);exact Pg.refl _
 have hpa:(takeP ts m_lpar (bndP ts m_lpar s.pa s)).pa=s.pa:=(hb1.trans (zar cx.ends m_lpar _)).pa;have HPA:=qh hpa;have HBD:Hid (bndP ts m_lpar s.pa s=if sees ts [m_lpar] s && s.pa == 12 then failP ts 11 s else s):=rfl;rw[HO.out];obtain⟨hp0,hp1⟩:=hp;have HCX:=qh cx
 cases hs:sees ts [m_lpar] s
 · have HBD2:Hid (bndP ts m_lpar s.pa s=s):=(by show _=_;rw[HBD.out,hs];rfl)
   rw[HBD2.out]at HPA ⊢;rw[hs]at HS;clear h hs HBD hb1 hpa
   go_enter Tryz.func112, Tryz.ntmps112
   go_wp2_with (first
    | (go_at_call 20;(refine(HS.out _ _ (by exact HH.out) (by exact Rd.new1' rfl)).mono ?_);rintro e w2 ⟨rfl,hB2⟩;have H2:=qh (HH.out.below hB2);have HE2:=qh (HE.out.trans (Wr.of_below hB2));clear hB2)
    | (go_at_call 49;(refine(HT.out _ _ (by exact H2.out)).mono ?_);rintro e w3 ⟨rfl,h3,hW3⟩;have H3:=qh h3;have HE3:=qh (HE2.out.trans hW3);have c4:w3.cell? ⟨gp,4,none⟩=some (.int .i64 (takeP ts m_lpar s).pa):=h3.par.cell 4;have f4:=h3.par.frozen 4;rw[HPA.out]at c4;clear h3 hW3))
   refine bodyPost_end (results_none rfl _ _ _) rfl ⟨rfl,⟨?_,Stm.far H3.out.stm HCX.out.ne.symm (fun ad e=>(HCX.out.tk ad e).1) _,H3.out.z,H3.out.lt⟩,HE3.out.setCell sy _⟩;rw[HPA.out];exact H3.out.par.set_ 4 _
 · cases hx:(s.pa == 12)
   · have HBD2:Hid (bndP ts m_lpar s.pa s=s):=(by show _=_;rw[HBD.out,hs,hx];rfl)
     rw[HBD2.out]at HPA ⊢;rw[hs]at HS;have hne:s.pa≠12:=by simpa using hx
     clear h hs HBD hb1 hpa hx
     go_enter Tryz.func112, Tryz.ntmps112
     go_wp2_with (first
      | (go_at_call 20;(refine(HS.out _ _ (by exact HH.out) (by exact Rd.new1' rfl)).mono ?_);rintro e w2 ⟨rfl,hB2⟩;have H2:=qh (HH.out.below hB2);have HE2:=qh (HE.out.trans (Wr.of_below hB2));have d4:w2.cell? ⟨gp,4,none⟩=some (.int .i64 s.pa):=H2.out.par.cell 4;clear hB2)
      | (go_at_call 49;(refine(HT.out _ _ (by exact H2.out)).mono ?_);rintro e w3 ⟨rfl,h3,hW3⟩;have H3:=qh h3;have HE3:=qh (HE2.out.trans hW3);have c4:w3.cell? ⟨gp,4,none⟩=some (.int .i64 (takeP ts m_lpar s).pa):=h3.par.cell 4;have f4:=h3.par.frozen 4;rw[HPA.out]at c4;clear h3 hW3))
     refine bodyPost_end (results_none rfl _ _ _) rfl ⟨rfl,⟨?_,Stm.far H3.out.stm HCX.out.ne.symm (fun ad e=>(HCX.out.tk ad e).1) _,H3.out.z,H3.out.lt⟩,HE3.out.setCell sy _⟩;rw[HPA.out];exact H3.out.par.set_ 4 _
   · have HBD2:Hid (bndP ts m_lpar s.pa s=failP ts 11 s):=(by show _=_;rw[HBD.out,hs,hx];rfl)
     rw[HBD2.out]at HPA ⊢;rw[hs]at HS;have heq:s.pa=12:=by simpa using hx
     clear h hs HBD hb1 hpa hx
     go_enter Tryz.func112, Tryz.ntmps112
     go_wp2_with (first
      | (go_at_call 20;(refine(HS.out _ _ (by exact HH.out) (by exact Rd.new1' rfl)).mono ?_);rintro e w2 ⟨rfl,hB2⟩;have H2:=qh (HH.out.below hB2);have HE2:=qh (HE.out.trans (Wr.of_below hB2));have d4:w2.cell? ⟨gp,4,none⟩=some (.int .i64 s.pa):=H2.out.par.cell 4;clear hB2)
      | (go_at_call 54;(refine(HF.out _ (by exact H2.out)).mono ?_);rintro e w3 ⟨rfl,h3,hW3⟩;have H3:=qh h3;have HE3:=qh (HE2.out.trans (hW3.mono sy));clear h3 hW3)
      | (go_at_call 49;(refine(HT.out _ _ (by exact H3.out)).mono ?_);rintro e w4 ⟨rfl,h4,hW4⟩;have H4:=qh h4;have HE4:=qh (HE3.out.trans hW4);have c4:w4.cell? ⟨gp,4,none⟩=some (.int .i64 (takeP ts m_lpar (failP ts 11 s)).pa):=h4.par.cell 4;have f4:=h4.par.frozen 4;rw[HPA.out]at c4;clear h4 hW4))
     refine bodyPost_end (results_none rfl _ _ _) rfl ⟨rfl,⟨?_,Stm.far H4.out.stm HCX.out.ne.symm (fun ad e=>(HCX.out.tk ad e).1) _,H4.out.z,H4.out.lt⟩,HE4.out.setCell sy _⟩;rw[HPA.out,heq];exact H4.out.par.set_ 4 _
end
end
end Go.Proofs.YtafjkbbiaopemaaGreatDoor.Tr
