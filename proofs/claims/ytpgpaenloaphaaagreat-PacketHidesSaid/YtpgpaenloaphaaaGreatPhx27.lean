/- Part of the proof: Ber, Blp. -/
import Derived.Test.YtpgpaenloaphaaaGreatPhx19
import Derived.Test.YtpgpaenloaphaaaGreatPhx22
set_option maxRecDepth 100000
set_option maxHeartbeats 16000000
namespace Go.Proofs.YtpgpaenloaphaaaGreat
open Go.RowKit
section
def note(f e:Nat):Nat:=if e≠0∧(f=0∨e<f) then e else f
theorem cell1{w:World}{g:Nat}{t:TypeId}{v:Value}(h:Blk w g t [v]):w.cell? ⟨g,0,none⟩=some v:=by rw[h.cell];rfl
theorem znf(g e f:Nat)(w:World)(h:Blk w g 36 [.int .i64 (f:Int)]):
 Calls Tryz.prog 129 #[.int .i64 (e:Int),.pointer (some ⟨g,0,none⟩)] w fun x w'=>x=.returned (.tuple #[])∧Blk w' g 36 [.int .i64 ((note f e:Nat):Int)]∧Only w w' g:=by
 have c0:=cell1 h;have f0:=h.frozen 0;have hB:=qh h;have HS:=qh (h.set_ 0 (.int .i64 (e:Int)));have HO:=qh (Only.of_setCells w g 0 [.int .i64 (e:Int)]);have HW:Hid (Only w w g):=⟨⟨rfl,rfl,rfl,lr,fun _ _ _=>rfl⟩,rfl⟩;clear h
 by_cases he:e=0
 · have HN:Hid (note f e=f):=if_neg (fun h=>h.1 he)
   have e1:((e:Int) != 0)=false:=by rw[bne_eq_false_iff_eq];omega
   go_enter Tryz.func129, Tryz.ntmps129
   go_wp2_with fail
   go_end0
   exact⟨rfl,by rw[HN.out];exact hB.out,HW.out⟩
 · have e1:((e:Int) != 0)=true:=by rw[bne_iff_ne];omega
   by_cases hf:f=0
   · have HN:Hid (note f e=e):=if_pos ⟨he,.inl hf⟩
     have e2:((f:Int) == 0)=true:=by rw[beq_iff_eq];omega
     go_enter Tryz.func129, Tryz.ntmps129
     go_wp2_with fail
     go_end0
     exact⟨rfl,by rw[HN.out];exact HS.out,HO.out⟩
   · have e2:((f:Int) == 0)=false:=by rw[beq_eq_false_iff_ne];omega
     by_cases hl:e<f
     · have HN:Hid (note f e=e):=if_pos ⟨he,.inr hl⟩
       have e3:(e:Int)<(f:Int):=om
       go_enter Tryz.func129, Tryz.ntmps129
       go_wp2_with fail
       go_end0
       exact⟨rfl,by rw[HN.out];exact HS.out,HO.out⟩
     · have HN:Hid (note f e=f):=if_neg (fun h=>by rcases h.2 with h|h;exact hf h;exact hl h)
       have e3:¬(e:Int)<(f:Int):=om
       go_enter Tryz.func129, Tryz.ntmps129
       go_wp2_with fail
       go_end0
       exact⟨rfl,by rw[HN.out];exact hB.out,HW.out⟩
theorem zjs(k:Nat)(K:Int)(hK:K=k)(g f:Nat)(w:World)(h:Blk w g 36 [.int .i64 (f:Int)]):
 Calls Tryz.prog 129 #[.int .i64 K,.pointer (some ⟨g,0,none⟩)] w fun x w'=>x=.returned (.tuple #[])∧Blk w' g 36 [.int .i64 ((note f k:Nat):Int)]∧Only w w' g:=by
 subst hK;exact znf g k f w h
theorem zri(g f:Nat)(w:World)(h:Blk w g 36 [.int .i64 (f:Int)]):
 Calls Tryz.prog 129 #[.int .i64 2,.pointer (some ⟨g,0,none⟩)] w fun x w'=>x=.returned (.tuple #[])∧Blk w' g 36 [.int .i64 ((note f 2:Nat):Int)]∧Only w w' g:=zjs 2 2 rfl g f w h
theorem zrh(g f:Nat)(w:World)(h:Blk w g 36 [.int .i64 (f:Int)]):
 Calls Tryz.prog 129 #[.int .i64 3,.pointer (some ⟨g,0,none⟩)] w fun x w'=>x=.returned (.tuple #[])∧Blk w' g 36 [.int .i64 ((note f 3:Nat):Int)]∧Only w w' g:=zjs 3 3 rfl g f w h
theorem zvm(g f:Nat)(w:World)(h:Blk w g 36 [.int .i64 (f:Int)]):
 Calls Tryz.prog 129 #[.int .i64 0,.pointer (some ⟨g,0,none⟩)] w fun x w'=>x=.returned (.tuple #[])∧Blk w' g 36 [.int .i64 ((note f 0:Nat):Int)]∧Only w w' g:=zjs 0 0 rfl g f w h
def errN(cs:List Cm)(n:Nat):Nat→Nat
 | 0=>0
 | i+1=>match cs[i]? with
  | none=>0
  | some c=>if c.check=0∧(decide (c.k=1)=decide (i+1=n)) then note (note (errN cs n i) c.check) 3 else note (errN cs n i) c.check
def berr(cs:List Cm)(ns:Nat):Nat:=if ns<1∨5<ns∨ns≠cs.length then note (errN cs cs.length cs.length) 2 else errN cs cs.length cs.length
theorem zj9{w:World}{A:Option Addr}{n:Nat}{l:List Cm}(h:RdS 20 w A n (l.flatMap Cm.cells))(hs:∀s∈l,s.ok){i:Nat}{s:Cm}(hi:l[i]? = some s)(hn:0<n):
 ∃b off,A=some ⟨b,off,none⟩∧b<w.heap.size∧w.rangeAt b (off+i*20) s.cells:=by
 obtain⟨b,off,e,hb,hc⟩:=h.2 hn;refine⟨b,off,e,hb,fun j v hv=>?_⟩;have h1:=zel (f:=Cm.cells) (sz:=20) (fun a ha=>Cm.cells_len (hs a ha)) hi hv;rw[Nat.add_assoc];exact hc _ _ h1
attribute [local go_sem ↓] zcg
theorem zu5(A:Option Addr)(n c ns:Nat)(cs:List Cm)(w:World)(h:RdS 20 w A n (cs.flatMap Cm.cells))(hs:∀c∈cs,c.ok)(hl:cs.length=n)(hn:n≤140737488355328)(hns:ns≤140737488355328):
 Calls Tryz.prog 83 #[.slice A n c,.int .i64 (ns:Int)] w fun e w'=>e=.returned (.int .i64 ((berr cs ns:Nat):Int))∧Below w.heap.size w w':=by
 have HR:=qh h;have HS:=qh hs;have HL:=qh hl;have HBE:Hid (berr cs ns=if ns<1∨5<ns∨ns≠n then note (errN cs n n) 2 else errN cs n n):=by show _=_;rw[berr,hl]
 have HN0:Hid (Blk (w.alloc (.cells #[.int .i64 0] 36)) w.heap.size 36 [.int .i64 ((errN cs n 0:Nat):Int)]):=Blk.new' rfl rfl;have HE0:Hid (Below w.heap.size w (w.alloc (.cells #[.int .i64 0] 36))):=(Below.refl _ w).alloc lr _;clear h hs hl
 go_enter Tryz.func83, Tryz.ntmps83
 go_wp2_with fail
 go_loopg [13] n (fun kk q wr=>∃i:Nat,i≤n∧kk=n-i∧q=.int .i64 i∧Blk wr w.heap.size 36 [.int .i64 ((errN cs n i:Nat):Int)]∧Below w.heap.size w wr)
 case atStart=>exact⟨0,by omega,rfl,rfl,HN0.out,HE0.out⟩
 case round =>
  clear HN0 HE0;obtain⟨i,hi,hgk,rfl,hb,hB⟩:=hrel;have HGK:=qh hgk;clear hgk
  by_cases hlt:i<n
  · have hlt2:(i:Int)<(n:Int):=om
    obtain⟨s,hsi⟩:∃s,cs[i]? = some s:=⟨_,ge9 (by rw[HL.out];omega)⟩;have hok:=HS.out s (mg9 hsi);obtain⟨b,off,rfl,hb2,hrg⟩:=zj9 (HR.out.bel hB lr) HS.out hsi om;have hld:(ldAt 47 (.pointer (some ⟨b,off+i*20,none⟩))).run Tryz.prog wr=.ok (.agg s.cells.toArray) wr:=run_loadAt_mid wr b (off+i*20) 47 s.cells _ hrg Tryz.underlying47 rfl (by rw[Cm.cells_len hok];exact hd76c);have HCK:=qh (fun W=>zn0 s hok W);have HCL:=qh (Cm.cells_len hok);have HC1:=qh (Cm.cells_one s);have HC0:Hid (s.cells[0]? = some (.int .u8 s.k.toNat)):=rfl;have HEN:Hid (errN cs n (i+1)=if s.check=0∧(decide (s.k=1)=decide (i+1=n)) then note (note (errN cs n i) s.check) 3 else note (errN cs n i) s.check):=by show _=_;rw[errN,hsi]
    have e1:((s.k.toNat:Int) == 1)=decide (s.k=1):=k_eq s.k 1;have e2:((i:Int)+1 == (n:Int))=decide (i+1=n):=by rw[Bool.eq_iff_iff,beq_iff_eq,decide_eq_true_iff];omega
    have HB:=qh hb;have HE:=qh hB;have hgl:=hb.lt;generalize decide (s.k=1)=pk at *;generalize decide (i+1=n)=pn at *;generalize s.cells=C at *;generalize s.check=E at *;generalize s.k.toNat=K at *;generalize errN cs n i=F at *;clear hsi hok hrg hb hB;have hbs:=HE.out.size
    by_cases hE:E=0
    · subst hE
      rw[show((0:Nat):Int)=0 from rfl]at HCK
      cases hpp:(pk == pn)with
      | true =>
       have hpe:pk=pn:=by simpa using hpp
       rw[if_pos ⟨rfl,hpe⟩]at HEN
       go_wp2_with (first
       | (refine zab rfl 47 (.tmp 8) (.tmp 17) rfl wr.heap.size C rr rr 47 Cm.zero.cells (by exact Blk.new' rfl rfl) (by rw[HCL.out];exact hd76c) HC1.out (by rw[HCL.out];rfl) ?_;intro w1 hb1 ho1;have HE1:=qh (ho1.below (HE.out.alloc hbs _) hbs (Nat.le_trans hbs sy));have HB1:=qh (ho1.blk (HB.out.alloc _) om);have HC8:=qh hb1;have hl8:=cm_ld hb1 HCL.out;clear hb1 ho1)
       | (go_at_call 75;(with_reducible refine(HCK.out _).mono ?_);rintro e w2 ⟨rfl,hB2⟩;have HE2:=qtr HE1 hB2;have HB2:=qbl HB1 hB2;have HC82:=qbl HC8 hB2;clear hB2)
       | (go_at_call 129;(with_reducible refine(zrh _ _ _ (by exact HN3.out)).mono ?_);rintro e w4 ⟨rfl,hb4,ho4⟩;have HE4:=qh (ho4.below HE3.out lr HE3.out.size);have HN4:=qh hb4;clear hb4 ho4)
       | (go_at_call 129;(with_reducible refine(zvm _ _ _ (by exact HB2.out)).mono ?_);rintro e w3 ⟨rfl,hb3,ho3⟩;have HE3:=qh (ho3.below HE2.out lr HE2.out.size);have HN3:=qh hb3;have c83:=((ho3.blk HC82.out om).cell 0).trans HC0.out;clear hb3 ho3))
       go_roundg (n-(i+1))
       case measure=>have:=HGK.out;omega
       case rel=>exact⟨i+1,by omega,rfl,by go_num,by rw[HEN.out];exact HN4.out,HE4.out⟩
      | false =>
       have hpe:¬pk=pn:=by simpa using hpp
       rw[if_neg (fun h=>hpe h.2)]at HEN
       go_wp2_with (first
       | (refine zab rfl 47 (.tmp 8) (.tmp 17) rfl wr.heap.size C rr rr 47 Cm.zero.cells (by exact Blk.new' rfl rfl) (by rw[HCL.out];exact hd76c) HC1.out (by rw[HCL.out];rfl) ?_;intro w1 hb1 ho1;have HE1:=qh (ho1.below (HE.out.alloc hbs _) hbs (Nat.le_trans hbs sy));have HB1:=qh (ho1.blk (HB.out.alloc _) om);have HC8:=qh hb1;have hl8:=cm_ld hb1 HCL.out;clear hb1 ho1)
       | (go_at_call 75;(with_reducible refine(HCK.out _).mono ?_);rintro e w2 ⟨rfl,hB2⟩;have HE2:=qtr HE1 hB2;have HB2:=qbl HB1 hB2;have HC82:=qbl HC8 hB2;clear hB2)
       | (go_at_call 129;(with_reducible refine(zrh _ _ _ (by exact HN3.out)).mono ?_);rintro e w4 ⟨rfl,hb4,ho4⟩;have HE4:=qh (ho4.below HE3.out lr HE3.out.size);have HN4:=qh hb4;clear hb4 ho4)
       | (go_at_call 129;(with_reducible refine(zvm _ _ _ (by exact HB2.out)).mono ?_);rintro e w3 ⟨rfl,hb3,ho3⟩;have HE3:=qh (ho3.below HE2.out lr HE2.out.size);have HN3:=qh hb3;have c83:=((ho3.blk HC82.out om).cell 0).trans HC0.out;clear hb3 ho3))
       go_roundg (n-(i+1))
       case measure=>have:=HGK.out;omega
       case rel=>exact⟨i+1,by omega,rfl,by go_num,by rw[HEN.out];exact HN3.out,HE3.out⟩
    · have hE1:((E:Int) == 0)=false:=by rw[beq_eq_false_iff_ne];omega
      rw[if_neg (fun h=>hE h.1)]at HEN;clear hE
      go_upto_region 8 with (first
      | (refine zab rfl 47 (.tmp 8) (.tmp 17) rfl wr.heap.size C rr rr 47 Cm.zero.cells (by exact Blk.new' rfl rfl) (by rw[HCL.out];exact hd76c) HC1.out (by rw[HCL.out];rfl) ?_;intro w1 hb1 ho1;have HE1:=qh (ho1.below (HE.out.alloc hbs _) hbs (Nat.le_trans hbs sy));have HB1:=qh (ho1.blk (HB.out.alloc _) om);have HC8:=qh hb1;have hl8:=cm_ld hb1 HCL.out;clear hb1 ho1)
      | (go_at_call 75;(with_reducible refine(HCK.out _).mono ?_);rintro e w2 ⟨rfl,hB2⟩;have HE2:=qtr HE1 hB2;have HB2:=qbl HB1 hB2;have HC82:=qbl HC8 hB2;clear hB2)
      | (go_at_call 129;(with_reducible refine(zrh _ _ _ (by exact HN3.out)).mono ?_);rintro e w4 ⟨rfl,hb4,ho4⟩;have HE4:=qh (ho4.below HE3.out lr HE3.out.size);have HN4:=qh hb4;clear hb4 ho4)
      | (go_at_call 129;(with_reducible refine(znf _ E _ _ (by exact HB2.out)).mono ?_);rintro e w3 ⟨rfl,hb3,ho3⟩;have HE3:=qh (ho3.below HE2.out lr HE2.out.size);have HN3:=qh hb3;have c83:=((ho3.blk HC82.out om).cell 0).trans HC0.out;clear hb3 ho3))
      repeat (first|go_values|go_skip|go_guarded|go_step|go_upon|go_back)
      go_roundg (n-(i+1))
      case measure=>have:=HGK.out;omega
      case rel=>exact⟨i+1,by omega,rfl,by go_num,by rw[HEN.out];exact HN3.out,HE3.out⟩
  · obtain rfl:i=n:=om
    have hlt2:¬(i:Int)<(i:Int):=om;have HB:=qh hb;have HE:=qh hB;have hgl:=hb.lt;have c0:=cell1 hb;clear hb hB
    by_cases hbad:ns<1∨5<ns∨ns≠i
    · rw[if_pos hbad]at HBE
      rcases (show ns<1∨(¬ns<1∧5<ns)∨(¬ns<1∧¬5<ns∧ns≠i) by omega)with h1|⟨h1,h2⟩|⟨h1,h2,h3⟩
      · have i1:(ns:Int)<1:=om
        clear hbad h1
        go_wp2_with (go_at_call 129;(with_reducible refine(zri _ _ _ (by exact HB.out)).mono ?_);rintro e w4 ⟨rfl,hb4,ho4⟩;have HE4:=qh (ho4.below HE.out lr HE.out.size);have c4:=cell1 hb4;clear hb4 ho4)
        go_ret;exact⟨by rw[HBE.out];rfl,HE4.out⟩
      · have i1:¬(ns:Int)<1:=om
        have i2:(5:Int)<(ns:Int):=om;clear hbad h1 h2
        go_wp2_with (go_at_call 129;(with_reducible refine(zri _ _ _ (by exact HB.out)).mono ?_);rintro e w4 ⟨rfl,hb4,ho4⟩;have HE4:=qh (ho4.below HE.out lr HE.out.size);have c4:=cell1 hb4;clear hb4 ho4)
        go_ret;exact⟨by rw[HBE.out];rfl,HE4.out⟩
      · have i1:¬(ns:Int)<1:=om
        have i2:¬(5:Int)<(ns:Int):=om;have i3:((ns:Int) != (i:Int))=true:=by rw[bne_iff_ne];omega
        clear hbad h1 h2 h3
        go_wp2_with (go_at_call 129;(with_reducible refine(zri _ _ _ (by exact HB.out)).mono ?_);rintro e w4 ⟨rfl,hb4,ho4⟩;have HE4:=qh (ho4.below HE.out lr HE.out.size);have c4:=cell1 hb4;clear hb4 ho4)
        go_ret;exact⟨by rw[HBE.out];rfl,HE4.out⟩
    · rw[if_neg hbad]at HBE
      have i1:¬(ns:Int)<1:=om;have i2:¬(5:Int)<(ns:Int):=om;have i3:((ns:Int) != (i:Int))=false:=by rw[bne_eq_false_iff_eq];omega
      clear hbad
      go_wp2_with fail
      go_ret;exact⟨by rw[HBE.out];rfl,HE.out⟩
end
theorem zhi{f e:Nat}(h:note f e=0):f=0∧e=0:=by
 unfold note at h
 split at h
 · rename_i h1;exact absurd h h1.1
 · rename_i h1
   refine⟨h,?_⟩
   by_cases he:e=0
   · exact he
   · exact absurd ⟨he,.inl h⟩ h1
theorem zk6{cs:List Cm}{n:Nat}: ∀i,i≤cs.length→errN cs n i=0→∀j c,j<i→cs[j]? = some c→c.check=0∧(decide (c.k=1)≠decide (j+1=n))
 | 0,_,_=>fun j c hj=>absurd hj om
 | i+1,hi,h=>fun j c hj hc=>by
  obtain⟨s,hs⟩:∃s,cs[i]? = some s:=⟨_,ge9 om⟩;rw[errN,hs]at h;simp only at h
  by_cases hb:s.check=0∧(decide (s.k=1)=decide (i+1=n))
  · rw[if_pos hb]at h
    exact absurd (zhi h).2 (by decide)
  · rw[if_neg hb]at h
    obtain⟨h1,h2⟩:=zhi h
    by_cases hji:j<i
    · exact zk6 i om h1 j c hji hc
    · obtain rfl:j=i:=om
      rw[hs]at hc
      injection hc with hc
      subst hc;exact⟨h2,fun h3=>hb ⟨h2,h3⟩⟩
theorem zk9{cs:List Cm}{ns:Nat}(h:berr cs ns=0):1≤ns∧ns≤5∧ns=cs.length∧∀j c,cs[j]? = some c→c.check=0∧(decide (c.k=1)≠decide (j+1=ns)):=by
 unfold berr at h
 split at h
 · exact absurd (zhi h).2 (by decide)
 · rename_i h1
   refine⟨by omega,by omega,by omega,fun j c hc=>?_⟩;have:=zk6 cs.length lr h j c (List.getElem?_eq_some_iff.1 hc).1 hc
   rwa [show ns=cs.length by omega]
def betaOf(c:Cm)(s:Sp)(f:List UInt8)(m:Nat)(P:List UInt8):List UInt8 :=
 if m=0 then Ch.turn s.stream (c.enc++List.replicate (240-f.length-32) 0)++f
 else Ch.turn s.stream (c.enc++((P.drop 32).take 16++(P.drop 48).take 192))
def headOf(c:Cm)(s:Sp)(f:List UInt8)(m:Nat)(P:List UInt8):List UInt8 :=
 s.alpha++((Mc.tag s.mac (s.alpha++betaOf c s f m P)).take 16++betaOf c s f m P)
def hst(cs:List Cm)(ss:List Sp)(n:Nat):Nat→List UInt8
 | 0=>z288
 | m+1=>match cs[n-1-m]?,ss[n-1-m]? with
  | some c,some s=>headOf c s (fil ss (n-1)) m (hst cs ss n m)
  | _,_=>[]
theorem zi8{c:Cm}{s:Sp}{f P:List UInt8}{m:Nat}(hc:c.ok)(hf:f.length≤208)(hP:P.length=288):(betaOf c s f m P).length=240:=by
 unfold betaOf
 split
 · rw[la9,Ch.turn_len,la9,Cm.enc_len hc,List.length_replicate];omega
 · rw[Ch.turn_len,la9,Cm.enc_len hc];simp[hP]
theorem zo3{c:Cm}{s:Sp}{f P:List UInt8}{m:Nat}(hc:c.ok)(hs:s.ok)(hf:f.length≤208)(hP:P.length=288):(headOf c s f m P).length=288:=by
 unfold headOf
 rw[la9,la9,zi8 hc hf hP,List.length_take,Mc.tag_len,hs.2.2.2.2.1]
 rfl
theorem zhv{cs:List Cm}{ss:List Sp}{n:Nat}(hc:∀c∈cs,c.ok)(hs:∀s∈ss,s.ok)(hcl:cs.length=n)(hsl:ss.length=n)(hn:n≤5):∀m,m≤n→(hst cs ss n m).length=288
 | 0,_=>List.length_replicate
 | m+1,hm=>by
  have ih:=zhv hc hs hcl hsl hn m om;rw[hst,ge9 om,ge9 om];exact zo3 (hc _ (List.getElem_mem _)) (hs _ (List.getElem_mem _)) (by rw[zj5 _ _ om];omega) ih
theorem zgp{cs:List Cm}{ss:List Sp}{n m i:Nat}{c:Cm}{s:Sp}(hi:i=n-1-m)(hc:cs[i]? = some c)(hs:ss[i]? = some s):hst cs ss n (m+1)=headOf c s (fil ss (n-1)) m (hst cs ss n m):=by
 subst hi;rw[hst,hc,hs]
theorem zvv{P a:List UInt8}(ha:a.length=32):splice (u8s P) 0 (u8s a)=u8s (a++P.drop 32):=by
 rw[zcl]
 unfold splice
 rw[List.take_zero,List.nil_append,Nat.zero_add,ha]
theorem w_beta{P a b:List UInt8}(hP:P.length=288)(ha:a.length=32)(hb:b.length=240):splice (u8s (a++P.drop 32)) 48 ((u8s b).take 240)=u8s (a++((P.drop 32).take 16++b)):=by
 rw[tk (by rw[zaa,hb];exact lr),zcl]
 unfold splice
 rw [show(a++P.drop 32).take 48=a++(P.drop 32).take 16 by rw[List.take_append,ha,tk om],
   show(a++P.drop 32).drop (48+b.length)=[] from List.drop_eq_nil_of_le (by rw[la9,List.length_drop,ha,hP,hb];omega),List.append_nil,List.append_assoc]
theorem w_tag{a t0 t b:List UInt8}(ha:a.length=32)(h0:t0.length=16)(ht:t.length=16):splice (u8s (a++(t0++b))) 32 ((u8s t).take 16)=u8s (a++(t++b)):=by
 rw[tk (by rw[zaa,ht];exact lr),zcl,←List.append_assoc,←List.append_assoc];have:=zdp a t0 t b om;rw[ha]at this;exact congrArg u8s this
theorem zeu{w:World}{b o:Nat}{l:List UInt8}(h:w.rangeAt b o (u8s l))(hb:b<w.heap.size)(k n:Nat)(hk:k+n≤l.length):Rd w (some ⟨b,o+k,none⟩) n (u8s ((l.drop k).take n)):=by
 refine⟨by rw[zaa,List.length_take,List.length_drop];omega,fun _=>⟨b,o+k,rfl,hb,fun j u hu=>?_⟩⟩;rw[←zay,←zbf,List.getElem?_take]at hu
 split at hu
 · rw[Nat.add_assoc]
   refine h (k+j) u ?_
   rwa [List.getElem?_drop]at hu
 · cases hu
theorem RdS.wr{sz:Nat}{w w':World}{A:Option Addr}{n g:Nat}{xs:List Value}(h:RdS sz w A n xs)(hw:Wrote g w w')(hA:∀ad:Addr,A=some ad→ad.block≠g):RdS sz w' A n xs:=by
 refine⟨h.1,fun hn=>?_⟩;obtain⟨b,off,e,hlt,hc⟩:=h.2 hn;exact⟨b,off,e,Nat.lt_of_lt_of_le hlt hw.size,fun j u hu=>(World.grownBy.cell_far hw ⟨b,off+j,none⟩ hlt (fun e'=>hA _ e (by injection e'))).trans (hc j u hu)⟩
end Go.Proofs.YtpgpaenloaphaaaGreat
