/- Part of the proof. -/
import Derived.Test.YtadopcjppijgiaaGreatSkp15
import Derived.Test.YtadopcjppijgiaaGreatSkp27
set_option linter.all false
set_option maxRecDepth 100000
set_option maxHeartbeats 0
namespace Go.Proofs.YtadopcjppijgiaaGreat
open Go.RowKit
section
def note(f e:Nat):Nat:=if e≠0∧(f=0∨e<f) then e else f
theorem cell1{w:World}{g:Nat}{t:TypeId}{v:Value}(h:Blk w g t [v]):w.cell? ⟨g,0,none⟩=some v:=by rw[h.cell];rfl
theorem zn6(g e f:Nat)(w:World)(h:Blk w g 38 [.int .i64 (f:Int)]):
 Calls Tryz.prog 75 #[.int .i64 (e:Int),.pointer (some ⟨g,0,none⟩)] w fun x w'=>x=.returned (.tuple #[])∧Blk w' g 38 [.int .i64 ((note f e:Nat):Int)]∧Only w w' g:=by
 have c0:=cell1 h;have f0:=h.frozen 0;have hB:=qh h;have HS:=qh (h.set_ 0 (.int .i64 (e:Int)));have HO:=qh (Only.of_setCells w g 0 [.int .i64 (e:Int)]);have HW:Hid (Only w w g):=⟨⟨rfl,rfl,rfl,lr,fun _ _ _=>rfl⟩,rfl⟩;clear h
 by_cases he:e=0
 · have HN:Hid (note f e=f):=if_neg (fun h=>h.1 he)
   have e1:((e:Int) != 0)=false:=by rw[bne_eq_false_iff_eq];omega
   go_enter Tryz.func75, Tryz.ntmps75
   go_wp2_with fail
   go_end0
   exact⟨rfl,by rw[HN.o];exact hB.o,HW.o⟩
 · have e1:((e:Int) != 0)=true:=by rw[bne_iff_ne];omega
   by_cases hf:f=0
   · have HN:Hid (note f e=e):=if_pos ⟨he,.inl hf⟩
     have e2:((f:Int) == 0)=true:=by rw[beq_iff_eq];omega
     go_enter Tryz.func75, Tryz.ntmps75
     go_wp2_with fail
     go_end0
     exact⟨rfl,by rw[HN.o];exact HS.o,HO.o⟩
   · have e2:((f:Int) == 0)=false:=by rw[beq_eq_false_iff_ne];omega
     by_cases hl:e<f
     · have HN:Hid (note f e=e):=if_pos ⟨he,.inr hl⟩
       have e3:(e:Int)<(f:Int):=om
       go_enter Tryz.func75, Tryz.ntmps75
       go_wp2_with fail
       go_end0
       exact⟨rfl,by rw[HN.o];exact HS.o,HO.o⟩
     · have HN:Hid (note f e=f):=if_neg (fun h=>by rcases h.2 with h|h;exact hf h;exact hl h)
       have e3:¬(e:Int)<(f:Int):=om
       go_enter Tryz.func75, Tryz.ntmps75
       go_wp2_with fail
       go_end0
       exact⟨rfl,by rw[HN.o];exact hB.o,HW.o⟩
theorem zj1(k:Nat)(K:Int)(hK:K=k)(g f:Nat)(w:World)(h:Blk w g 38 [.int .i64 (f:Int)]):
 Calls Tryz.prog 75 #[.int .i64 K,.pointer (some ⟨g,0,none⟩)] w fun x w'=>x=.returned (.tuple #[])∧Blk w' g 38 [.int .i64 ((note f k:Nat):Int)]∧Only w w' g:=by
 subst hK;exact zn6 g k f w h
theorem zsh(g f:Nat)(w:World)(h:Blk w g 38 [.int .i64 (f:Int)]):
 Calls Tryz.prog 75 #[.int .i64 2,.pointer (some ⟨g,0,none⟩)] w fun x w'=>x=.returned (.tuple #[])∧Blk w' g 38 [.int .i64 ((note f 2:Nat):Int)]∧Only w w' g:=zj1 2 2 rfl g f w h
theorem zsg(g f:Nat)(w:World)(h:Blk w g 38 [.int .i64 (f:Int)]):
 Calls Tryz.prog 75 #[.int .i64 3,.pointer (some ⟨g,0,none⟩)] w fun x w'=>x=.returned (.tuple #[])∧Blk w' g 38 [.int .i64 ((note f 3:Nat):Int)]∧Only w w' g:=zj1 3 3 rfl g f w h
theorem zwr(g f:Nat)(w:World)(h:Blk w g 38 [.int .i64 (f:Int)]):
 Calls Tryz.prog 75 #[.int .i64 0,.pointer (some ⟨g,0,none⟩)] w fun x w'=>x=.returned (.tuple #[])∧Blk w' g 38 [.int .i64 ((note f 0:Nat):Int)]∧Only w w' g:=zj1 0 0 rfl g f w h
def errN(cs:List Cm)(n:Nat):Nat→Nat
 | 0=>0
 | i+1=>match cs[i]? with
  | none=>0
  | some c=>if c.check=0∧(decide (c.k=1)=decide (i+1=n)) then note (note (errN cs n i) c.check) 3 else note (errN cs n i) c.check
def berr(cs:List Cm)(ns:Nat):Nat:=if ns<1∨5<ns∨ns≠cs.length then note (errN cs cs.length cs.length) 2 else errN cs cs.length cs.length
theorem zkm{w:World}{A:Option Addr}{n:Nat}{l:List Cm}(h:RdS 20 w A n (l.flatMap Cm.cells))(hs:∀s∈l,s.ok){i:Nat}{s:Cm}(hi:l[i]? = some s)(hn:0<n):
 ∃b r,A=some ⟨b,r,none⟩∧b<w.heap.size∧w.rangeAt b (r+i*20) s.cells:=by
 obtain⟨b,r,e,hb,hc⟩:=h.2 hn;refine⟨b,r,e,hb,fun j v hv=>?_⟩;have h1:=zd1 (f:=Cm.cells) (sz:=20) (fun a ha=>Cm.cells_len (hs a ha)) hi hv;rw[Nat.add_assoc];exact hc _ _ h1
attribute [local go_sem ↓] zch
theorem zv9(A:Option Addr)(n c ns:Nat)(cs:List Cm)(w:World)(h:RdS 20 w A n (cs.flatMap Cm.cells))(hs:∀c∈cs,c.ok)(hl:cs.length=n)(hn:n≤140737488355328)(d4:ns≤140737488355328):
 Calls Tryz.prog 46 #[.slice A n c,.int .i64 (ns:Int)] w fun e w'=>e=.returned (.int .i64 ((berr cs ns:Nat):Int))∧Below w.heap.size w w':=by
 have HR:=qh h;have HS:=qh hs;have HL:=qh hl;have a5:Hid (berr cs ns=if ns<1∨5<ns∨ns≠n then note (errN cs n n) 2 else errN cs n n):=by show _=_;rw[berr,hl]
 have c2:Hid (Blk (w.alloc (.cells #[.int .i64 0] 38)) w.heap.size 38 [.int .i64 ((errN cs n 0:Nat):Int)]):=Blk.new' rfl rfl;have c9:Hid (Below w.heap.size w (w.alloc (.cells #[.int .i64 0] 38))):=(Below.refl _ w).alloc lr _;clear h hs hl
 go_enter Tryz.func46, Tryz.ntmps46
 go_wp2_with fail
 go_loopg [13] n (fun kk q wr=>∃i:Nat,i≤n∧kk=n-i∧q=.int .i64 i∧Blk wr w.heap.size 38 [.int .i64 ((errN cs n i:Nat):Int)]∧Below w.heap.size w wr)
 case atStart=>exact⟨0,by omega,rfl,rfl,c2.o,c9.o⟩
 case round =>
  clear c2 c9;obtain⟨i,hi,c3,rfl,hb,hB⟩:=hrel;have b7:=qh c3;clear c3
  by_cases hlt:i<n
  · have c8:(i:Int)<(n:Int):=om
    obtain⟨s,b2⟩:∃s,cs[i]? = some s:=⟨_,ge9 (by rw[HL.o];omega)⟩;have b3:=HS.o s (mg9 b2);obtain⟨b,c6,rfl,d5,c5⟩:=zkm (HR.o.bel hB lr) HS.o b2 om;have d6:(ldAt 63 (.pointer (some ⟨b,c6+i*20,none⟩))).run Tryz.prog wr=.ok (.agg s.cells.toArray) wr:=run_loadAt_mid wr b (c6+i*20) 63 s.cells _ c5 Tryz.underlying63 rfl (by rw[Cm.cells_len b3];exact hd76c);have b1:=qh (fun W=>zot s b3 W);have X:=qh (Cm.cells_len b3);have b5:=qh (Cm.cells_one s);have b9:Hid (s.cells[0]? = some (.int .u8 s.k.toNat)):=rfl;have a4:Hid (errN cs n (i+1)=if s.check=0∧(decide (s.k=1)=decide (i+1=n)) then note (note (errN cs n i) s.check) 3 else note (errN cs n i) s.check):=by show _=_;rw[errN,b2]
    have e1:((s.k.toNat:Int) == 1)=decide (s.k=1):=k_eq s.k 1;have e2:((i:Int)+1 == (n:Int))=decide (i+1=n):=by rw[Bool.eq_iff_iff,beq_iff_eq,decide_eq_true_iff];omega
    have HB:=qh hb;have HE:=qh hB;have d0:=hb.lt;generalize decide (s.k=1)=pk at *;generalize decide (i+1=n)=pn at *;generalize s.cells=C at *;generalize s.check=E at *;generalize s.k.toNat=K at *;generalize errN cs n i=F at *;clear b2 b3 c5 hb hB;have V:=HE.o.size
    by_cases hE:E=0
    · subst hE
      rw[show((0:Nat):Int)=0 from rfl]at b1
      cases hpp:(pk == pn)with
      | true =>
       have b6:pk=pn:=by simpa using hpp
       rw[if_pos ⟨rfl,b6⟩]at a4
       go_wp2_with (first
       | (refine zab rfl 63 (.tmp 8) (.tmp 17) rfl wr.heap.size C rr rr 63 Cm.zero.cells (by exact Blk.new' rfl rfl) (by rw[X.o];exact hd76c) b5.o (by rw[X.o];rfl) ?_;intro w1 M J;have a9:=qh (J.below (HE.o.alloc V _) V (Nat.le_trans V sy));have a6:=qh (J.blk (HB.o.alloc _) om);have a8:=qh M;have c1:=cm_ld M X.o;clear M J)
       | (go_at_call 76;(with_reducible refine(b1.o _).mono ?_);rintro e w2 ⟨rfl,G⟩;have a1:=qtr a9 G;have a7:=qbl a6 G;have a0:=qbl a8 G;clear G)
       | (go_at_call 75;(with_reducible refine(zsg _ _ _ (by exact a3.o)).mono ?_);rintro e w4 ⟨rfl,D,r⟩;have Y:=qh (r.below U.o lr U.o.size);have b4:=qh D;clear D r)
       | (go_at_call 75;(with_reducible refine(zwr _ _ _ (by exact a7.o)).mono ?_);rintro e w3 ⟨rfl,a2,I⟩;have U:=qh (I.below a1.o lr a1.o.size);have a3:=qh a2;have c7:=((I.blk a0.o om).cell 0).trans b9.o;clear a2 I))
       go_roundg (n-(i+1))
       case measure=>have:=b7.o;omega
       case rel=>exact⟨i+1,by omega,rfl,by go_num,by rw[a4.o];exact b4.o,Y.o⟩
      | false =>
       have b6:¬pk=pn:=by simpa using hpp
       rw[if_neg (fun h=>b6 h.2)]at a4
       go_wp2_with (first
       | (refine zab rfl 63 (.tmp 8) (.tmp 17) rfl wr.heap.size C rr rr 63 Cm.zero.cells (by exact Blk.new' rfl rfl) (by rw[X.o];exact hd76c) b5.o (by rw[X.o];rfl) ?_;intro w1 M J;have a9:=qh (J.below (HE.o.alloc V _) V (Nat.le_trans V sy));have a6:=qh (J.blk (HB.o.alloc _) om);have a8:=qh M;have c1:=cm_ld M X.o;clear M J)
       | (go_at_call 76;(with_reducible refine(b1.o _).mono ?_);rintro e w2 ⟨rfl,G⟩;have a1:=qtr a9 G;have a7:=qbl a6 G;have a0:=qbl a8 G;clear G)
       | (go_at_call 75;(with_reducible refine(zsg _ _ _ (by exact a3.o)).mono ?_);rintro e w4 ⟨rfl,D,r⟩;have Y:=qh (r.below U.o lr U.o.size);have b4:=qh D;clear D r)
       | (go_at_call 75;(with_reducible refine(zwr _ _ _ (by exact a7.o)).mono ?_);rintro e w3 ⟨rfl,a2,I⟩;have U:=qh (I.below a1.o lr a1.o.size);have a3:=qh a2;have c7:=((I.blk a0.o om).cell 0).trans b9.o;clear a2 I))
       go_roundg (n-(i+1))
       case measure=>have:=b7.o;omega
       case rel=>exact⟨i+1,by omega,rfl,by go_num,by rw[a4.o];exact a3.o,U.o⟩
    · have d3:((E:Int) == 0)=false:=by rw[beq_eq_false_iff_ne];omega
      rw[if_neg (fun h=>hE h.1)]at a4;clear hE
      go_upto_region 8 with (first
      | (refine zab rfl 63 (.tmp 8) (.tmp 17) rfl wr.heap.size C rr rr 63 Cm.zero.cells (by exact Blk.new' rfl rfl) (by rw[X.o];exact hd76c) b5.o (by rw[X.o];rfl) ?_;intro w1 M J;have a9:=qh (J.below (HE.o.alloc V _) V (Nat.le_trans V sy));have a6:=qh (J.blk (HB.o.alloc _) om);have a8:=qh M;have c1:=cm_ld M X.o;clear M J)
      | (go_at_call 76;(with_reducible refine(b1.o _).mono ?_);rintro e w2 ⟨rfl,G⟩;have a1:=qtr a9 G;have a7:=qbl a6 G;have a0:=qbl a8 G;clear G)
      | (go_at_call 75;(with_reducible refine(zsg _ _ _ (by exact a3.o)).mono ?_);rintro e w4 ⟨rfl,D,r⟩;have Y:=qh (r.below U.o lr U.o.size);have b4:=qh D;clear D r)
      | (go_at_call 75;(with_reducible refine(zn6 _ E _ _ (by exact a7.o)).mono ?_);rintro e w3 ⟨rfl,a2,I⟩;have U:=qh (I.below a1.o lr a1.o.size);have a3:=qh a2;have c7:=((I.blk a0.o om).cell 0).trans b9.o;clear a2 I))
      repeat (first|go_values|go_skip|go_guarded|go_step|go_upon|go_back)
      go_roundg (n-(i+1))
      case measure=>have:=b7.o;omega
      case rel=>exact⟨i+1,by omega,rfl,by go_num,by rw[a4.o];exact a3.o,U.o⟩
  · obtain rfl:i=n:=om
    have c8:¬(i:Int)<(i:Int):=om;have HB:=qh hb;have HE:=qh hB;have d0:=hb.lt;have c0:=cell1 hb;clear hb hB
    by_cases hbad:ns<1∨5<ns∨ns≠i
    · rw[if_pos hbad]at a5
      rcases (show ns<1∨(¬ns<1∧5<ns)∨(¬ns<1∧¬5<ns∧ns≠i) by omega)with h1|⟨h1,h2⟩|⟨h1,h2,h3⟩
      · have i1:(ns:Int)<1:=om
        clear hbad h1
        go_wp2_with (go_at_call 75;(with_reducible refine(zsh _ _ _ (by exact HB.o)).mono ?_);rintro e w4 ⟨rfl,D,r⟩;have Y:=qh (r.below HE.o lr HE.o.size);have c4:=cell1 D;clear D r)
        go_ret;exact⟨by rw[a5.o];rfl,Y.o⟩
      · have i1:¬(ns:Int)<1:=om
        have i2:(5:Int)<(ns:Int):=om;clear hbad h1 h2
        go_wp2_with (go_at_call 75;(with_reducible refine(zsh _ _ _ (by exact HB.o)).mono ?_);rintro e w4 ⟨rfl,D,r⟩;have Y:=qh (r.below HE.o lr HE.o.size);have c4:=cell1 D;clear D r)
        go_ret;exact⟨by rw[a5.o];rfl,Y.o⟩
      · have i1:¬(ns:Int)<1:=om
        have i2:¬(5:Int)<(ns:Int):=om;have i3:((ns:Int) != (i:Int))=true:=by rw[bne_iff_ne];omega
        clear hbad h1 h2 h3
        go_wp2_with (go_at_call 75;(with_reducible refine(zsh _ _ _ (by exact HB.o)).mono ?_);rintro e w4 ⟨rfl,D,r⟩;have Y:=qh (r.below HE.o lr HE.o.size);have c4:=cell1 D;clear D r)
        go_ret;exact⟨by rw[a5.o];rfl,Y.o⟩
    · rw[if_neg hbad]at a5
      have i1:¬(ns:Int)<1:=om;have i2:¬(5:Int)<(ns:Int):=om;have i3:((ns:Int) != (i:Int))=false:=by rw[bne_eq_false_iff_eq];omega
      clear hbad
      go_wp2_with fail
      go_ret;exact⟨by rw[a5.o];rfl,HE.o⟩
end
theorem zhn{f e:Nat}(h:note f e=0):f=0∧e=0:=by
 unfold note at h
 split at h
 · rename_i h1;exact absurd h h1.1
 · rename_i h1
   refine⟨h,?_⟩
   by_cases he:e=0
   · exact he
   · exact absurd ⟨he,.inl h⟩ h1
theorem zlx{cs:List Cm}{n:Nat}: ∀i,i≤cs.length→errN cs n i=0→∀j c,j<i→cs[j]? = some c→c.check=0∧(decide (c.k=1)≠decide (j+1=n))
 | 0,_,_=>fun j c hj=>absurd hj om
 | i+1,hi,h=>fun j c hj hc=>by
  obtain⟨s,hs⟩:∃s,cs[i]? = some s:=⟨_,ge9 om⟩;rw[errN,hs]at h;simp only at h
  by_cases hb:s.check=0∧(decide (s.k=1)=decide (i+1=n))
  · rw[if_pos hb]at h
    exact absurd (zhn h).2 (by decide)
  · rw[if_neg hb]at h
    obtain⟨h1,h2⟩:=zhn h
    by_cases hji:j<i
    · exact zlx i om h1 j c hji hc
    · obtain rfl:j=i:=om
      rw[hs]at hc
      injection hc with hc
      subst hc;exact⟨h2,fun h3=>hb ⟨h2,h3⟩⟩
theorem zl1{cs:List Cm}{ns:Nat}(h:berr cs ns=0):1≤ns∧ns≤5∧ns=cs.length∧∀j c,cs[j]? = some c→c.check=0∧(decide (c.k=1)≠decide (j+1=ns)):=by
 unfold berr at h
 split at h
 · exact absurd (zhn h).2 (by decide)
 · rename_i h1
   refine⟨by omega,by omega,by omega,fun j c hc=>?_⟩;have:=zlx cs.length lr h j c (gi9.1 hc).1 hc
   rwa [show ns=cs.length by omega]
def betaOf(c:Cm)(s:Sp)(f:List UInt8)(m:Nat)(P:List UInt8):List UInt8 :=
 if m=0 then Ch.turn s.stream (c.enc++List.replicate (240-f.length-32) 0)++f
 else Ch.turn s.stream (c.enc++((P.drop 32).take 16++(P.drop 48).take 192))
def headOf(c:Cm)(s:Sp)(f:List UInt8)(m:Nat)(P:List UInt8):List UInt8 :=
 s.alpha++((Mc.tag s.mac (s.alpha++betaOf c s f m P)).take 16++betaOf c s f m P)
def hst(cs:List Cm)(ss:List Sp)(n:Nat):Nat→List UInt8
 | 0=>z288
 | m+1=>match cs[n-1-m]?,ss[n-1-m]? with
  | some c,some s=>headOf c s (fil ss (n-1)) m (hst cs ss n m)
  | _,_=>[]
theorem zjf{c:Cm}{s:Sp}{f P:List UInt8}{m:Nat}(hc:c.ok)(hf:f.length≤208)(hP:P.length=288):(betaOf c s f m P).length=240:=by
 unfold betaOf
 split
 · rw[la9,Ch.turn_len,la9,Cm.enc_len hc,lp9];omega
 · rw[Ch.turn_len,la9,Cm.enc_len hc];simp[hP]
theorem zpv{c:Cm}{s:Sp}{f P:List UInt8}{m:Nat}(hc:c.ok)(hs:s.ok)(hf:f.length≤208)(hP:P.length=288):(headOf c s f m P).length=288:=by
 unfold headOf
 rw[la9,la9,zjf hc hf hP,List.length_take,Mc.tag_len,hs.2.2.2.2.1]
 rfl
theorem zfy{cs:List Cm}{ss:List Sp}{n:Nat}(hc:∀c∈cs,c.ok)(hs:∀s∈ss,s.ok)(A:cs.length=n)(r:ss.length=n)(hn:n≤5):∀m,m≤n→(hst cs ss n m).length=288
 | 0,_=>lp9
 | m+1,hm=>by
  have ih:=zfy hc hs A r hn m om;rw[hst,ge9 om,ge9 om];exact zpv (hc _ (List.getElem_mem _)) (hs _ (List.getElem_mem _)) (by rw[zkh _ _ om];omega) ih
theorem zgr{cs:List Cm}{ss:List Sp}{n m i:Nat}{c:Cm}{s:Sp}(hi:i=n-1-m)(hc:cs[i]? = some c)(hs:ss[i]? = some s):hst cs ss n (m+1)=headOf c s (fil ss (n-1)) m (hst cs ss n m):=by
 subst hi;rw[hst,hc,hs]
theorem zw1{P a:List UInt8}(ha:a.length=32):splice (u8s P) 0 (u8s a)=u8s (a++P.drop 32):=by
 rw[zcm]
 unfold splice
 rw[List.take_zero,List.nil_append,Nat.zero_add,ha]
theorem w_beta{P a b:List UInt8}(hP:P.length=288)(ha:a.length=32)(hb:b.length=240):splice (u8s (a++P.drop 32)) 48 ((u8s b).take 240)=u8s (a++((P.drop 32).take 16++b)):=by
 rw[tk (by rw[zaa,hb];exact lr),zcm]
 unfold splice
 rw [show(a++P.drop 32).take 48=a++(P.drop 32).take 16 by rw[List.take_append,ha,tk om],
   show(a++P.drop 32).drop (48+b.length)=[] from List.drop_eq_nil_of_le (by rw[la9,List.length_drop,ha,hP,hb];omega),List.append_nil,as9]
theorem w_tag{a t0 t b:List UInt8}(ha:a.length=32)(h0:t0.length=16)(ht:t.length=16):splice (u8s (a++(t0++b))) 32 ((u8s t).take 16)=u8s (a++(t++b)):=by
 rw[tk (by rw[zaa,ht];exact lr),zcm,←as9,←as9];have:=zdw a t0 t b om;rw[ha]at this;exact congrArg u8s this
theorem zez{w:World}{b o:Nat}{l:List UInt8}(h:w.rangeAt b o (u8s l))(hb:b<w.heap.size)(k n:Nat)(hk:k+n≤l.length):Rd w (some ⟨b,o+k,none⟩) n (u8s ((l.drop k).take n)):=by
 refine⟨by rw[zaa,List.length_take,List.length_drop];omega,fun _=>⟨b,o+k,rfl,hb,fun j u hu=>?_⟩⟩;rw[←zay,←za9,List.getElem?_take]at hu
 split at hu
 · rw[Nat.add_assoc]
   refine h (k+j) u ?_
   rwa [List.getElem?_drop]at hu
 · cases hu
theorem RdS.wr{sz:Nat}{w w':World}{A:Option Addr}{n g:Nat}{xs:List Value}(h:RdS sz w A n xs)(hw:Wrote g w w')(hA:∀ad:Addr,A=some ad→ad.block≠g):RdS sz w' A n xs:=by
 refine⟨h.1,fun hn=>?_⟩;obtain⟨b,D,e,r,hc⟩:=h.2 hn;exact⟨b,D,e,Nat.lt_of_lt_of_le r hw.size,fun j u hu=>(World.grownBy.cell_far hw ⟨b,D+j,none⟩ r (fun e'=>hA _ e (by injection e'))).trans (hc j u hu)⟩
