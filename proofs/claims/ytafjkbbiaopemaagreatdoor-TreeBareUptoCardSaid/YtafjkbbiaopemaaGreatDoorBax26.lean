/- Part of the proof. -/
import Derived.Test.YtafjkbbiaopemaaGreatDoorBax24
import Derived.Test.YtafjkbbiaopemaaGreatDoorBax25
set_option linter.all false
set_option maxRecDepth 100000
set_option maxHeartbeats 0
namespace Go.Proofs.YtafjkbbiaopemaaGreatDoor.Lx
open Go.RowKit
def Stands(s:List UInt8)(t:Tok):Prop :=
 1≤t.kind∧t.kind≤5∧t.at_<s.length∧(t.kind=4→s[t.at_]? = some 34)∧(t.kind≠4→t.text.length≤s.length-t.at_∧(s.drop t.at_).take t.text.length=t.text)
theorem zf4{c:UInt8}{r:List UInt8}{k m:Nat}{t x:List UInt8}(h:token (c :: r)=.inr (k,t,m,x)):
 1≤k∧k≤5∧(k=4→c=34)∧(k≠4→t.length≤(c :: r).length∧(c :: r).take t.length=t):=by
 have pre:∀p:UInt8→Bool,((c :: r).takeWhile p).length≤(c :: r).length∧(c :: r).take ((c :: r).takeWhile p).length=(c :: r).takeWhile p:=fun p=>by
  have:=List.takeWhile_prefix p (l:=c :: r);exact⟨this.length_le,(List.prefix_iff_eq_take.1 this).symm⟩
 unfold token at h
 simp only[]at h
 split at h
 · split at h
   · cases h
   · injection h with h
     injection h with h1 h
     injection h with h2 h
     subst h2;refine⟨?_,?_,?_,fun _=>pre _⟩
     · subst h1;split <;> omega
     · subst h1;split <;> omega
     · intro hk;subst h1;split at hk <;> omega
 · split at h
   · split at h
     · cases h
     · split at h
       · cases h
       · injection h with h
         injection h with h1 h
         injection h with h2 h
         subst h2;subst h1;exact⟨by omega,by omega,by omega,fun _=>pre _⟩
   · split at h
     · rename_i hc
       split at h
       · cases h
       · injection h with h
         injection h with h1 h
         subst h1;exact⟨by omega,by omega,fun _=>by simpa using hc,fun hk=>absurd rfl hk⟩
     · split at h
       · injection h with h
         injection h with h1 h
         injection h with h2 h
         subst h2;subst h1;exact⟨by omega,by omega,by omega,fun _=>⟨by simp,by simp⟩⟩
       · cases h
theorem zg2(com:Bool)(r:List UInt8):∃q,skip com r=r.drop q:=by
 induction r generalizing com with
 | nil=>exact⟨0,rfl⟩
 | cons c r ih =>
  unfold skip
  split
  · split
    · obtain⟨q,hq⟩:=ih false;exact⟨q+1,by simpa using hq⟩
    · obtain⟨q,hq⟩:=ih true;exact⟨q+1,by simpa using hq⟩
  · split
    · obtain⟨q,hq⟩:=ih false;exact⟨q+1,by simpa using hq⟩
    · split
      · obtain⟨q,hq⟩:=ih true;exact⟨q+1,by simpa using hq⟩
      · exact⟨0,rfl⟩
theorem znp{s r:List UInt8}{q:Nat}(h:r=s.drop q):r=s.drop (s.length-r.length):=by
 rcases Nat.lt_or_ge q s.length with hq|hq
 · have:r.length=s.length-q:=by rw[h];simp
   rw[show s.length-r.length=q from by omega];exact h
 · rw[List.drop_eq_nil_of_le hq]at h
   subst h;rw[List.drop_eq_nil_of_le (by simp)]
def Rising(ts:List Tok):Prop:=∀(i:Nat) (t t':Tok),ts[i]? = some t→ts[i+1]? = some t'→t.at_<t'.at_
theorem Rising.snoc{ts:List Tok}(h:Rising ts)(u:Tok)(hu:∀t∈ts,t.at_<u.at_):Rising (ts++[u]):=by
 intro i t t' h1 h2
 rcases Nat.lt_or_ge (i+1) ts.length with hi|hi
 · rw[List.getElem?_append_left (by omega)]at h1
   rw[List.getElem?_append_left hi]at h2;exact h i t t' h1 h2
 · rw[List.getElem?_append_right hi]at h2
   have he:i+1=ts.length:=by
    have:=(List.getElem?_eq_some_iff.1 h2).1
    simp at this
    omega
   rw[he]at h2
   simp at h2
   subst h2;rw[List.getElem?_append_left (by omega)]at h1;exact hu t (List.mem_of_getElem? h1)
theorem zgb(s:List UInt8)(f:Nat)(r:List UInt8)(acc out:List Tok)(q:Nat)(hr:r=s.drop q)(ha:∀t∈acc,Stands s t∧t.at_<s.length-r.length)(hri:Rising acc)
 (h:scanF s.length f r acc=.inr out):∃us,out=us++[⟨6,[],0,s.length⟩]∧Rising us∧∀t∈us,Stands s t:=by
 induction f generalizing r acc q with
 | zero=>simp[scanF]at h
 | succ f ih =>
  unfold scanF at h
  obtain⟨q1,hq1⟩:=zg2 false r
  split at h
  · injection h with h
    exact⟨acc,h.symm,hri,fun t ht=>(ha t ht).1⟩
  · rename_i c r1 hsk
    split at h
    · cases h
    · rename_i k t m x htok
      have hs1:c :: r1=s.drop (q+q1):=by rw[←hsk,hq1,hr,List.drop_drop]
      have hd:=znp hs1;obtain⟨q2,hq2⟩:=token_suffix htok;have hx:x=s.drop (q+q1+q2):=by rw[hq2,hs1,List.drop_drop]
      have hl:=token_len htok;have hlr:(c :: r1).length≤r.length:=by rw[←hsk];exact skip_len _ _
      have hls:(c :: r1).length≤s.length:=by rw[hs1];simp
      have hrs:r.length≤s.length:=by rw[hr];simp
      obtain⟨k1,k2,k3,k4⟩:=zf4 htok;have hpos:0<(c :: r1).length:=by simp
      have hst:Stands s ⟨k,t,m,s.length-(c :: r1).length⟩:=by
       refine⟨k1,k2,by show s.length-(c :: r1).length<s.length;omega,fun hk=>?_,fun hk=>?_⟩
       · have hc:=k3 hk
         show s[s.length-(c :: r1).length]? = some 34
         have:(s.drop (s.length-(c :: r1).length))[0]? = some c:=by rw[←hd];rfl
         rw[List.getElem?_drop]at this;rw[←hc]
         simpa using this
       · obtain⟨k5,k6⟩:=k4 hk
         show t.length≤s.length-(s.length-(c :: r1).length)∧(s.drop (s.length-(c :: r1).length)).take t.length=t
         rw[←hd];exact⟨by omega,k6⟩
      refine ih x _ _ hx (fun u hu=>?_) (hri.snoc _ fun u hu=>?_) h
      · rcases List.mem_append.1 hu with hu|hu
        · exact⟨(ha u hu).1,by have:=(ha u hu).2;omega⟩
        · simp at hu
          subst hu;refine⟨hst,?_⟩
          show s.length-(c :: r1).length<s.length-x.length
          omega
      · show u.at_<s.length-(c :: r1).length
        have:=(ha u hu).2;omega
theorem scan_cases(s:List UInt8):(∃p q,scan s=((p,q),[])∧((p=2∧q=0∧8000<s.length)∨(p=9∧q≤s.length∧s.length≤8000))) ∨
 (∃us,scan s=((0,0),us++[⟨6,[],0,s.length⟩])∧Rising us∧(∀t∈us,Stands s t)∧s.length≤8000):=by
 unfold scan
 split
 · exact .inl ⟨2,0,rfl,.inl ⟨rfl,rfl,by omega⟩⟩
 · cases h:scanF s.length (s.length+1) s []with
   | inl x=>exact .inl ⟨9,s.length-x.length,rfl,.inr ⟨rfl,by omega,by omega⟩⟩
   | inr ts =>
    obtain⟨us,rfl,h1,h2⟩:=zgb s _ s [] ts 0 rfl (by simp) (fun i t t' h=>by simp at h) h;exact .inr ⟨us,rfl,h1,h2,by omega⟩
end Go.Proofs.YtafjkbbiaopemaaGreatDoor.Lx
namespace Go.Proofs.YtafjkbbiaopemaaGreatDoor.Tr
open Go.RowKit
section
structure DpS(gp gs G:Nat)(A:Option Addr)(n c:Nat)(ts:List Lx.Tok)(w0:World)(l:List Dc)(sl:List plA)(v:Value)(q:PS)(w:World):Prop where
 st:PSt gp gs A n c ts q w
 wr:Wr [gp,gs,G] w0 w
 e:Blk w G 26 [v,.slice none 0 0]
 own:w.ownsRow w0.heap.size 45 9 v l.length (zipC dcC l sl)
 nl:sl.length=l.length
 ar:∀(i:Nat) (s:Dc) (p:plA),l[i]? = some s→sl[i]? = some p→DcIn (Fv w0.heap.size v) w s p
 lo:PLo gp gs A G
 lt:G<w0.heap.size
section
variable{gp gs G:Nat}{A:Option Addr}{n c:Nat}{ts:List Lx.Tok}{s q q':PS}{w w' w0:World}{l:List Dc}{sl:List plA}{v v':Value}{X:Dc}{y:plA}
theorem DpS.nin(h:DpS gp gs G A n c ts w0 l sl v q w):∀x∈[gp,gs,G],x<w0.heap.size:=by
 intro x hx;have h1:=h.lo.1;have h2:=h.lo.2.1;have h3:=h.lt;simp only[List.mem_cons,List.not_mem_nil,or_false]at hx;omega
theorem DpS.call(h:DpS gp gs G A n c ts w0 l sl v q w)(hs:PSt gp gs A n c ts q' w')(hW:Wr [gp,gs] w w'):DpS gp gs G A n c ts w0 l sl v q' w':=by
 have hW3:Wr [gp,gs,G] w w':=hW.mono (fun g hg=>by simp only[List.mem_cons,List.not_mem_nil,or_false]at hg ⊢;omega)
 exact ⟨hs,h.wr.trans hW3,Blk.wr h.e hW h.lo lr,zav h.own (fun k hk hlt _=>hW3.block k hlt (fun hm=>by have:=h.nin k hm;omega)),h.nl,
   fun i s p h1 h2=>(h.ar i s p h1 h2).keep (hW3.keep _ _ (fun k hk _ hm=>by have h5:=h.nin k hm;have h6:=hk.1;omega) (fun _ h _=>h)),h.lo,h.lt⟩
theorem DpS.fr(h:DpS gp gs G A n c ts w0 l sl v q w){B:Nat}(hB:w.heap.size≤B){W:World}{T:Dc}{p:plA}(ha:DcIn (Fr B) W T p):DcIn (Fv w0.heap.size v) W T p :=
 ha.keep ⟨lr,fun _ _ _=>rfl,fun k hk _=>⟨by have:=h.wr.size;unfold Fr at hk;omega,fun e=>by have:=(h.own.lt k e).2;unfold Fr at hk;omega⟩⟩
theorem DpS.push(h:DpS gp gs G A n c ts w0 l sl v q w)(hy:DcIn (Fv w0.heap.size v) w X y){w5:World}(hg:(w.alloc (.cells (dcC X y).toArray 45)).grownBy w5 v.ownBlock)
 (ho:w5.ownsRow w0.heap.size 45 9 v' (l.length+1) (zipC dcC l sl++dcC X y)) (hat:v'.ownBlock=v.ownBlock∨v'.ownBlock=some (w.alloc (.cells (dcC X y).toArray 45)).heap.size):
 DpS gp gs G A n c ts w0 (l++[X]) (sl++[y]) v' q (w5.setCell ⟨G,0,none⟩ v'):=by
 have hlt:=h.lt;have hobl:∀k,v.ownBlock=some k→w0.heap.size≤k∧k<w.heap.size:=fun k hk=>h.own.lt k hk
 have hsz:(w.alloc (.cells (dcC X y).toArray 45)).heap.size=w.heap.size+1:=by simp
 have hB5:Below w0.heap.size w w5:=((Below.refl _ w).alloc h.wr.size _).grown hg (Nat.le_trans h.wr.size sy) (fun k hk=>(h.own.lt k hk).1);have hW5:Wr [gp,gs,G] w0 w5:=h.wr.thenb hB5
 have hob':∀k,v'.ownBlock=some k→w0.heap.size≤k:=by
  intro k hk
  rcases hat with h1|h1
  · exact(hobl k (h1 ▸ hk)).1
  · rw[h1]at hk
    injection hk with hk
    have:=h.wr.size;omega
 have hK:Keep (Fv w0.heap.size v) (Fv w0.heap.size v') w (w5.setCell ⟨G,0,none⟩ v'):=by
  refine⟨Nat.le_trans hB5.size (by simp[World.setCell]),fun k hk hkl=>?_,fun k hk hkl=>⟨hk.1,fun e=>?_⟩⟩
  · rw[Below.heap_setCell w5 ⟨G,0,none⟩ v' k (by have:=hk.1;show k≠G;omega),hg.block k om hk.2.symm]
    exact Below.heap_alloc w _ k hkl
  · rcases hat with h1|h1
    · exact hk.2 (h1 ▸ e)
    · rw[h1]at e
      injection e with e
      omega
 refine⟨(h.st.belowB (h.lo.mono (Nat.le_of_lt hlt)) hB5).setNew h.lo (p:=⟨G,0,none⟩) lr _,hW5.setCell sy _,?_,?_,by simp[h.nl],?_,h.lo,h.lt⟩
 · exact((h.e.alloc _).grown hg (fun e=>by have:=(hobl G e.symm).1;omega)).set_ 0 v'
 · rw[la9,zby dcC l sl X y h.nl]
   exact zav ho (fun k hk hkl e=>Below.heap_setCell w5 ⟨G,0,none⟩ v' k (by have:=hob' k e;show k≠G;omega))
 · intro i s p h1 h2
   rcases Nat.lt_or_ge i l.length with hi|hi
   · rw[ll9 hi]at h1
     rw[ll9 (by rw[h.nl];exact hi)]at h2;exact(h.ar i s p h1 h2).keep hK
   · have hi0:i=l.length:=by
      have:=(gi9.1 h1).1
      simp at this
      omega
     subst hi0
     simp at h1
     rw[←h.nl]at h2
     simp at h2
     subst h1 h2;exact hy.keep hK
theorem DpS.fin(h:DpS gp gs G A n c ts w0 l sl v q w):∃A' c',v=.slice A' l.length c'∧DcsIn (Fr w0.heap.size) w A' l:=by
 obtain⟨A',c',rfl,hc⟩:=zc5 h.own;have hK:Keep (Fv w0.heap.size (.slice A' l.length c')) (Fr w0.heap.size) w w:=⟨lr,fun _ _ _=>rfl,fun k hk _=>hk.1⟩;refine⟨A',c',rfl,sl,h.nl,⟨RdS.ofOwn3 h.own,fun hn ad e=>?_⟩,fun i s p h1 h2=>(h.ar i s p h1 h2).keep hK⟩;subst e;have h5:=h.own
 rcases h5.2 with ⟨h6,h0⟩|⟨g,cap,cur,hv,hb,_⟩
 · omega
 · injection hv with hA
   injection hA with hA
   subst hA;exact⟨hb,zdw h5 rfl⟩
end
theorem zj5{us:List Lx.Tok}(h:Lx.Rising us):∀(i:Nat) (t:Lx.Tok),us[i]? = some t→i≤t.at_
 | 0,_,_=>Nat.zero_le _
 | i+1,t,ht=>by
  have hl:=(gi9.1 ht).1;have h1:us[i]? = some us[i]:=ge9 om;have h2:=zj5 h i _ h1;have h3:=h i _ _ h1 ht;omega
theorem zjw{s:List UInt8}{ts:List Lx.Tok}(h:Lx.scan s=((0,0),ts)):Ends ts∧0<ts.length∧ts.length≤8001∧s.length≤8000∧∀j,j<ts.length→(tokAt ts j).at_≤s.length:=by
 rcases Lx.scan_cases s with ⟨p,q,h1,h2⟩|⟨us,h1,hr,hs,hl⟩
 · rw[h]at h1
   injection h1 with h3
   injection h3 with h3 h4
   omega
 · rw[h]at h1
   injection h1 with _ h1
   subst h1
   have hlen:us.length≤s.length:=by
    rcases Nat.eq_zero_or_pos us.length with h0|h0
    · omega
    · have h5:us[us.length-1]? = some us[us.length-1]:=ge9 om
      have h6:=zj5 hr _ _ h5;have h7:=(hs _ (List.getElem_mem (by omega:us.length-1<us.length))).2.2.1;omega
   refine⟨fun i hi=>?_,by simp,by simp;omega,hl,fun j hj=>?_⟩
   · rw[la9,List.length_singleton]
     rcases Nat.lt_or_ge i us.length with h5|h5
     · omega
     · refine absurd ?_ hi
       unfold tokAt
       rcases Nat.eq_or_lt_of_le h5 with h6|h6
       · subst h6
         rw[ar9 lr]
         simp
       · rw[List.getElem?_eq_none (by simp;omega)]
         rfl
   · unfold tokAt
     rcases Nat.lt_or_ge j us.length with h5|h5
     · rw[ll9 h5,ge9 h5]
       exact Nat.le_of_lt (hs _ (List.getElem_mem h5)).2.2.1
     · have h6:j=us.length:=by simp at hj;omega
       subst h6;rw[ar9 lr]
       simp
end
end Go.Proofs.YtafjkbbiaopemaaGreatDoor.Tr
