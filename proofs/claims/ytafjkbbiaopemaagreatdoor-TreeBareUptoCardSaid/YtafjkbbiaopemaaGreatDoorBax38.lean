/- Part of the proof. -/
import Derived.Test.YtafjkbbiaopemaaGreatDoorBax36
set_option linter.all false
set_option maxRecDepth 100000
set_option maxHeartbeats 0
namespace Go.Proofs.YtafjkbbiaopemaaGreatDoor.Tr
open Go.RowKit
section
section
variable{w w' w0:World}{b B g:Nat}{l l':List UInt8}
attribute [local go_sem ↓] zfh
theorem zpa{F:Nat→Prop}(s:St)(p:StA)(hk:s.kind=k_send)(hin:LIn F w s p)(h:IsP B b l w)(hB:B≤w.heap.size)(hl:l.length+(rHd s).length≤1000000000)(hF:∀k,F k→k<B)(hT:Tab B w):Calls Tryz.prog 100 #[.pointer (some ⟨b,0,none⟩),.agg (stC s p).toArray] w fun r w'=>PrE B b w (l++rHd s) r w':=by
 have HD:rHd s=[115,101,110,100,32]++prE s.ea++t_via++prR s.routes++nmd t_with s.block++nmd t_as s.tag:=by
  unfold rHd
  rw[hk]
  first|rfl|(unfold prLine;first|rfl|simp[List.append_assoc])
 rw[HD]at hl ⊢;clear HD;have HXA:Hid (PW B b w 71 [.agg (exC s.ea p.a).toArray] (prE s.ea)):=fun l' W h1 h2 h3 hW=>zch hin.oa p.a B b l' W h1 h2 h3 hF (hin.a.keep (zat hF hW)) (hT.mv hW)
 have HXV:Hid (PW B b w 121 [.slice p.r.1 s.routes.length p.r.2] ((t_via++prR s.routes))):=fun l' W h1 h2 h3 hW=>zhx p.r.1 s.routes _ p.r.2 rfl hin.hr h1 h2 h3 hF (hin.r.keep (zat hF hW))
 have HXW:Hid (PW B b w 122 [.string { data:=#[32,119,105,116,104,32] },.agg #[.string s.block.name,.int .i64 s.block.at_]] (nmd t_with s.block)):=fun l' W h1 h2 h3 hW=>zeb { data:=#[32,119,105,116,104,32] } s.block h1 h2 h3
 have HXT:Hid (PW B b w 122 [.string { data:=#[32,97,115,32] },.agg #[.string s.tag.name,.int .i64 s.tag.at_]] (nmd t_as s.tag)):=fun l' W h1 h2 h3 hW=>zeb { data:=#[32,97,115,32] } s.tag h1 h2 h3
 obtain⟨C,hC⟩:=ex9 (stC s p);have k0:C[0]? = some (.string s.kind):=by rw[hC];rfl
 obtain⟨CA,hCA⟩:=ex9 (exC s.ea p.a);have HKA:Hid (∀j v,CA[j]? = some v→C[4+j]? = some v):=by show ∀j v,_;rw[hC,hCA];exact stC_a s p
 have HLA:Hid (CA.length=5):=by show _=_;rw[hCA];rfl
 rw[←hCA]at HXA;clear hCA;have HKV:Hid (C[19]? = some (.slice p.r.1 s.routes.length p.r.2)):=by show _=_;rw[hC];rfl
 have HKW:Hid (∀j v,(rfC s.block)[j]? = some v→C[20+j]? = some v):=by show ∀j v,_;rw[hC];exact stC_w s p
 have HKT:Hid (∀j v,(rfC s.tag)[j]? = some v→C[22+j]? = some v):=by show ∀j v,_;rw[hC];exact stC_t s p
 rw[hk]at k0;rw[←hC];have HBL:=qh h.lt;have H0:=qh ((PrS.start h hB).al (.cells C.toArray 42));have HD0:Hid (Blk (w.alloc (.cells C.toArray 42)) w.heap.size 42 C):=Blk.new _ _ _;have HL:=qh hl;have c0:(w.alloc (.cells C.toArray 42)).cell? ⟨w.heap.size,0,none⟩=some (.string k_send):=(HD0.out.cell 0).trans k0;clear k0 hC hl h hin hk hT
 go_enter Tryz.func100, Tryz.ntmps100
 go_wp2_with (first
  | (go_at_call 122;(have hz:=H4.out.hB;clear hz);(refine(HXT.out _ _ (by exact H4.out.p) (by exact Nat.le_trans H4.out.hB H4.out.bl.size) (by have:=HL.out;simp[flatS,tx]at this ⊢;omega) (by exact H4.out.bl)).mono ?_);rintro e w5 h5;have H5:=qh (H4.out.st h5);have HD5:Hid (Blk w5 w.heap.size 42 C):=h5.2.2.2.blk HD4.out (by have:=HBL.out;omega) (by decide);clear ldT ltT; obtain⟨rfl,_⟩:=h5)
  | (go_at_call 122;(have hz:=H3.out.hB;clear hz);(refine(HXW.out _ _ (by exact H3.out.p) (by exact Nat.le_trans H3.out.hB H3.out.bl.size) (by have:=HL.out;simp[flatS,tx]at this ⊢;omega) (by exact H3.out.bl)).mono ?_);rintro e w4 h4;have H4:=qh (H3.out.st h4);have HD4:Hid (Blk w4 w.heap.size 42 C):=h4.2.2.2.blk HD3.out (by have:=HBL.out;omega) (by decide);clear ldW ltW;have ldT:w4.cell? ⟨w.heap.size,22,none⟩=some (.string s.tag.name):=(HD4.out.cell 22).trans (HKT.out 0 _ rfl);have ltT:w4.cell? ⟨w.heap.size,23,none⟩=some (.int .i64 s.tag.at_):=(HD4.out.cell 23).trans (HKT.out 1 _ rfl); obtain⟨rfl,_⟩:=h4)
  | (go_at_call 121;(have hz:=H2.out.hB;clear hz);(refine(HXV.out _ _ (by exact H2.out.p) (by exact Nat.le_trans H2.out.hB H2.out.bl.size) (by have:=HL.out;simp[flatS,tx]at this ⊢;omega) (by exact H2.out.bl)).mono ?_);rintro e w3 h3;have H3:=qh (H2.out.st h3);have HD3:Hid (Blk w3 w.heap.size 42 C):=h3.2.2.2.blk HD2.out (by have:=HBL.out;omega) (by decide);clear ldV;have ldW:w3.cell? ⟨w.heap.size,20,none⟩=some (.string s.block.name):=(HD3.out.cell 20).trans (HKW.out 0 _ rfl);have ltW:w3.cell? ⟨w.heap.size,21,none⟩=some (.int .i64 s.block.at_):=(HD3.out.cell 21).trans (HKW.out 1 _ rfl); obtain⟨rfl,_⟩:=h3)
  | (go_at_call 71;(have hz:=H1.out.hB;clear hz);(refine(HXA.out _ _ (by exact H1.out.p) (by exact Nat.le_trans H1.out.hB H1.out.bl.size) (by have:=HL.out;simp[flatS,tx]at this ⊢;omega) (by exact H1.out.bl)).mono ?_);rintro e w2 h2;have H2:=qh (H1.out.st h2);have HD2:Hid (Blk w2 w.heap.size 42 C):=h2.2.2.2.blk HD1.out (by have:=HBL.out;omega) (by decide);clear ldA;have ldV:w2.cell? ⟨w.heap.size,19,none⟩=some (.slice p.r.1 s.routes.length p.r.2):=(HD2.out.cell 19).trans HKV.out; obtain⟨rfl,_⟩:=h2)
  | (go_at_call 70;(refine(zad H0.out _ sy [{ data:=#[115,101,110,100,32] }] 1 rfl (by decide) (by have:=HL.out;simp[flatS,tx]at this ⊢;omega)).mono ?_);rintro e w1 h1;have H1:=qh ((H0.out.al _).st h1);have HD1:Hid (Blk w1 w.heap.size 42 C):=h1.2.2.2.blk (HD0.out.alloc _) (by have:=HBL.out;omega) (by decide);have ldA:(ldAt 39 (.pointer (some ⟨w.heap.size,4,none⟩))).run Tryz.prog w1=.ok (.agg CA.toArray) w1:=run_loadAt_mid w1 w.heap.size 4 39 CA _ (HD1.out.mid 4 _ HKA.out) Tryz.underlying39 rfl (by rw[HLA.out];exact hdEx); obtain⟨rfl,_⟩:=h1))
 go_end0
 have h6:=H5.out.fin;rw[show l++flatS [{ data:=#[115,101,110,100,32] }]++prE s.ea++(t_via++prR s.routes)++nmd t_with s.block++nmd t_as s.tag=l++([115,101,110,100,32]++prE s.ea++t_via++prR s.routes++nmd t_with s.block++nmd t_as s.tag) by simp[flatS,tx,List.append_assoc]]at h6;exact h6
theorem zm2{F:Nat→Prop}(s:St)(p:StA)(hk:s.kind=k_split)(hin:LIn F w s p)(h:IsP B b l w)(hB:B≤w.heap.size)(hl:l.length+(rHd s).length≤1000000000)(hF:∀k,F k→k<B)(hT:Tab B w):Calls Tryz.prog 100 #[.pointer (some ⟨b,0,none⟩),.agg (stC s p).toArray] w fun r w'=>PrE B b w (l++rHd s) r w':=by
 have HD:rHd s=[115,112,108,105,116,32]++prE s.ea++t_via++prR s.routes++nmd t_as s.tag:=by
  unfold rHd
  rw[hk]
  first|rfl|(unfold prLine;first|rfl|simp[List.append_assoc])
 rw[HD]at hl ⊢;clear HD;have HXA:Hid (PW B b w 71 [.agg (exC s.ea p.a).toArray] (prE s.ea)):=fun l' W h1 h2 h3 hW=>zch hin.oa p.a B b l' W h1 h2 h3 hF (hin.a.keep (zat hF hW)) (hT.mv hW)
 have HXV:Hid (PW B b w 121 [.slice p.r.1 s.routes.length p.r.2] ((t_via++prR s.routes))):=fun l' W h1 h2 h3 hW=>zhx p.r.1 s.routes _ p.r.2 rfl hin.hr h1 h2 h3 hF (hin.r.keep (zat hF hW))
 have HXT:Hid (PW B b w 122 [.string { data:=#[32,97,115,32] },.agg #[.string s.tag.name,.int .i64 s.tag.at_]] (nmd t_as s.tag)):=fun l' W h1 h2 h3 hW=>zeb { data:=#[32,97,115,32] } s.tag h1 h2 h3
 obtain⟨C,hC⟩:=ex9 (stC s p);have k0:C[0]? = some (.string s.kind):=by rw[hC];rfl
 obtain⟨CA,hCA⟩:=ex9 (exC s.ea p.a);have HKA:Hid (∀j v,CA[j]? = some v→C[4+j]? = some v):=by show ∀j v,_;rw[hC,hCA];exact stC_a s p
 have HLA:Hid (CA.length=5):=by show _=_;rw[hCA];rfl
 rw[←hCA]at HXA;clear hCA;have HKV:Hid (C[19]? = some (.slice p.r.1 s.routes.length p.r.2)):=by show _=_;rw[hC];rfl
 have HKT:Hid (∀j v,(rfC s.tag)[j]? = some v→C[22+j]? = some v):=by show ∀j v,_;rw[hC];exact stC_t s p
 rw[hk]at k0;rw[←hC];have HBL:=qh h.lt;have H0:=qh ((PrS.start h hB).al (.cells C.toArray 42));have HD0:Hid (Blk (w.alloc (.cells C.toArray 42)) w.heap.size 42 C):=Blk.new _ _ _;have HL:=qh hl;have c0:(w.alloc (.cells C.toArray 42)).cell? ⟨w.heap.size,0,none⟩=some (.string k_split):=(HD0.out.cell 0).trans k0;clear k0 hC hl h hin hk hT
 go_enter Tryz.func100, Tryz.ntmps100
 go_wp2_with (first
  | (go_at_call 122;(have hz:=H3.out.hB;clear hz);(refine(HXT.out _ _ (by exact H3.out.p) (by exact Nat.le_trans H3.out.hB H3.out.bl.size) (by have:=HL.out;simp[flatS,tx]at this ⊢;omega) (by exact H3.out.bl)).mono ?_);rintro e w4 h4;have H4:=qh (H3.out.st h4);have HD4:Hid (Blk w4 w.heap.size 42 C):=h4.2.2.2.blk HD3.out (by have:=HBL.out;omega) (by decide);clear ldT ltT; obtain⟨rfl,_⟩:=h4)
  | (go_at_call 121;(have hz:=H2.out.hB;clear hz);(refine(HXV.out _ _ (by exact H2.out.p) (by exact Nat.le_trans H2.out.hB H2.out.bl.size) (by have:=HL.out;simp[flatS,tx]at this ⊢;omega) (by exact H2.out.bl)).mono ?_);rintro e w3 h3;have H3:=qh (H2.out.st h3);have HD3:Hid (Blk w3 w.heap.size 42 C):=h3.2.2.2.blk HD2.out (by have:=HBL.out;omega) (by decide);clear ldV;have ldT:w3.cell? ⟨w.heap.size,22,none⟩=some (.string s.tag.name):=(HD3.out.cell 22).trans (HKT.out 0 _ rfl);have ltT:w3.cell? ⟨w.heap.size,23,none⟩=some (.int .i64 s.tag.at_):=(HD3.out.cell 23).trans (HKT.out 1 _ rfl); obtain⟨rfl,_⟩:=h3)
  | (go_at_call 71;(have hz:=H1.out.hB;clear hz);(refine(HXA.out _ _ (by exact H1.out.p) (by exact Nat.le_trans H1.out.hB H1.out.bl.size) (by have:=HL.out;simp[flatS,tx]at this ⊢;omega) (by exact H1.out.bl)).mono ?_);rintro e w2 h2;have H2:=qh (H1.out.st h2);have HD2:Hid (Blk w2 w.heap.size 42 C):=h2.2.2.2.blk HD1.out (by have:=HBL.out;omega) (by decide);clear ldA;have ldV:w2.cell? ⟨w.heap.size,19,none⟩=some (.slice p.r.1 s.routes.length p.r.2):=(HD2.out.cell 19).trans HKV.out; obtain⟨rfl,_⟩:=h2)
  | (go_at_call 70;(refine(zad H0.out _ sy [{ data:=#[115,112,108,105,116,32] }] 1 rfl (by decide) (by have:=HL.out;simp[flatS,tx]at this ⊢;omega)).mono ?_);rintro e w1 h1;have H1:=qh ((H0.out.al _).st h1);have HD1:Hid (Blk w1 w.heap.size 42 C):=h1.2.2.2.blk (HD0.out.alloc _) (by have:=HBL.out;omega) (by decide);have ldA:(ldAt 39 (.pointer (some ⟨w.heap.size,4,none⟩))).run Tryz.prog w1=.ok (.agg CA.toArray) w1:=run_loadAt_mid w1 w.heap.size 4 39 CA _ (HD1.out.mid 4 _ HKA.out) Tryz.underlying39 rfl (by rw[HLA.out];exact hdEx); obtain⟨rfl,_⟩:=h1))
 go_end0
 have h6:=H4.out.fin;rw[show l++flatS [{ data:=#[115,112,108,105,116,32] }]++prE s.ea++(t_via++prR s.routes)++nmd t_as s.tag=l++([115,112,108,105,116,32]++prE s.ea++t_via++prR s.routes++nmd t_as s.tag) by simp[flatS,tx,List.append_assoc]]at h6;exact h6
theorem zm5{F:Nat→Prop}(s:St)(p:StA)(hk:s.kind=k_cover)(hin:LIn F w s p)(h:IsP B b l w)(hB:B≤w.heap.size)(hl:l.length+(rHd s).length≤1000000000)(hF:∀k,F k→k<B)(hT:Tab B w):Calls Tryz.prog 100 #[.pointer (some ⟨b,0,none⟩),.agg (stC s p).toArray] w fun r w'=>PrE B b w (l++rHd s) r w':=by
 have HD:rHd s=[99,111,118,101,114,32]++prR s.routes:=by
  unfold rHd
  rw[hk]
  first|rfl|(unfold prLine;first|rfl|simp[List.append_assoc])
 rw[HD]at hl ⊢;clear HD;have HXQ:Hid (PW B b w 123 [.slice p.r.1 s.routes.length p.r.2] (prR s.routes)):=fun l' W h1 h2 h3 hW=>zej p.r.1 s.routes _ p.r.2 rfl hin.hr h1 h2 h3 hF (hin.r.keep (zat hF hW))
 obtain⟨C,hC⟩:=ex9 (stC s p);have k0:C[0]? = some (.string s.kind):=by rw[hC];rfl
 have HKQ:Hid (C[19]? = some (.slice p.r.1 s.routes.length p.r.2)):=by show _=_;rw[hC];rfl
 rw[hk]at k0;rw[←hC];have HBL:=qh h.lt;have H0:=qh ((PrS.start h hB).al (.cells C.toArray 42));have HD0:Hid (Blk (w.alloc (.cells C.toArray 42)) w.heap.size 42 C):=Blk.new _ _ _;have HL:=qh hl;have c0:(w.alloc (.cells C.toArray 42)).cell? ⟨w.heap.size,0,none⟩=some (.string k_cover):=(HD0.out.cell 0).trans k0;clear k0 hC hl h hin hk hT
 go_enter Tryz.func100, Tryz.ntmps100
 go_wp2_with (first
  | (go_at_call 123;(have hz:=H1.out.hB;clear hz);(refine(HXQ.out _ _ (by exact H1.out.p) (by exact Nat.le_trans H1.out.hB H1.out.bl.size) (by have:=HL.out;simp[flatS,tx]at this ⊢;omega) (by exact H1.out.bl)).mono ?_);rintro e w2 h2;have H2:=qh (H1.out.st h2);have HD2:Hid (Blk w2 w.heap.size 42 C):=h2.2.2.2.blk HD1.out (by have:=HBL.out;omega) (by decide);clear ldQ; obtain⟨rfl,_⟩:=h2)
  | (go_at_call 70;(refine(zad H0.out _ sy [{ data:=#[99,111,118,101,114,32] }] 1 rfl (by decide) (by have:=HL.out;simp[flatS,tx]at this ⊢;omega)).mono ?_);rintro e w1 h1;have H1:=qh ((H0.out.al _).st h1);have HD1:Hid (Blk w1 w.heap.size 42 C):=h1.2.2.2.blk (HD0.out.alloc _) (by have:=HBL.out;omega) (by decide);have ldQ:w1.cell? ⟨w.heap.size,19,none⟩=some (.slice p.r.1 s.routes.length p.r.2):=(HD1.out.cell 19).trans HKQ.out; obtain⟨rfl,_⟩:=h1))
 go_end0
 have h6:=H2.out.fin;rw[show l++flatS [{ data:=#[99,111,118,101,114,32] }]++prR s.routes=l++([99,111,118,101,114,32]++prR s.routes) by simp[flatS,tx,List.append_assoc]]at h6;exact h6
theorem zo9{F:Nat→Prop}(s:St)(p:StA)(hk:s.kind=k_wait)(hin:LIn F w s p)(h:IsP B b l w)(hB:B≤w.heap.size)(hl:l.length+(rHd s).length≤1000000000)(hF:∀k,F k→k<B)(hT:Tab B w):Calls Tryz.prog 100 #[.pointer (some ⟨b,0,none⟩),.agg (stC s p).toArray] w fun r w'=>PrE B b w (l++rHd s) r w':=by
 have HD:rHd s=[119,97,105,116,32]++prE s.ea:=by
  unfold rHd
  rw[hk]
  first|rfl|(unfold prLine;first|rfl|simp[List.append_assoc])
 rw[HD]at hl ⊢;clear HD;have HXA:Hid (PW B b w 71 [.agg (exC s.ea p.a).toArray] (prE s.ea)):=fun l' W h1 h2 h3 hW=>zch hin.oa p.a B b l' W h1 h2 h3 hF (hin.a.keep (zat hF hW)) (hT.mv hW)
 obtain⟨C,hC⟩:=ex9 (stC s p);have k0:C[0]? = some (.string s.kind):=by rw[hC];rfl
 obtain⟨CA,hCA⟩:=ex9 (exC s.ea p.a);have HKA:Hid (∀j v,CA[j]? = some v→C[4+j]? = some v):=by show ∀j v,_;rw[hC,hCA];exact stC_a s p
 have HLA:Hid (CA.length=5):=by show _=_;rw[hCA];rfl
 rw[←hCA]at HXA;clear hCA;rw[hk]at k0;rw[←hC];have HBL:=qh h.lt;have H0:=qh ((PrS.start h hB).al (.cells C.toArray 42));have HD0:Hid (Blk (w.alloc (.cells C.toArray 42)) w.heap.size 42 C):=Blk.new _ _ _;have HL:=qh hl;have c0:(w.alloc (.cells C.toArray 42)).cell? ⟨w.heap.size,0,none⟩=some (.string k_wait):=(HD0.out.cell 0).trans k0;clear k0 hC hl h hin hk hT
 go_enter Tryz.func100, Tryz.ntmps100
 go_wp2_with (first
  | (go_at_call 71;(have hz:=H1.out.hB;clear hz);(refine(HXA.out _ _ (by exact H1.out.p) (by exact Nat.le_trans H1.out.hB H1.out.bl.size) (by have:=HL.out;simp[flatS,tx]at this ⊢;omega) (by exact H1.out.bl)).mono ?_);rintro e w2 h2;have H2:=qh (H1.out.st h2);have HD2:Hid (Blk w2 w.heap.size 42 C):=h2.2.2.2.blk HD1.out (by have:=HBL.out;omega) (by decide);clear ldA; obtain⟨rfl,_⟩:=h2)
  | (go_at_call 70;(refine(zad H0.out _ sy [{ data:=#[119,97,105,116,32] }] 1 rfl (by decide) (by have:=HL.out;simp[flatS,tx]at this ⊢;omega)).mono ?_);rintro e w1 h1;have H1:=qh ((H0.out.al _).st h1);have HD1:Hid (Blk w1 w.heap.size 42 C):=h1.2.2.2.blk (HD0.out.alloc _) (by have:=HBL.out;omega) (by decide);have ldA:(ldAt 39 (.pointer (some ⟨w.heap.size,4,none⟩))).run Tryz.prog w1=.ok (.agg CA.toArray) w1:=run_loadAt_mid w1 w.heap.size 4 39 CA _ (HD1.out.mid 4 _ HKA.out) Tryz.underlying39 rfl (by rw[HLA.out];exact hdEx); obtain⟨rfl,_⟩:=h1))
 go_end0
 have h6:=H2.out.fin;rw[show l++flatS [{ data:=#[119,97,105,116,32] }]++prE s.ea=l++([119,97,105,116,32]++prE s.ea) by simp[flatS,tx,List.append_assoc]]at h6;exact h6
theorem zm6{F:Nat→Prop}(s:St)(p:StA)(hk:s.kind=k_block)(hin:LIn F w s p)(h:IsP B b l w)(hB:B≤w.heap.size)(hl:l.length+(rHd s).length≤1000000000)(hF:∀k,F k→k<B)(hT:Tab B w):Calls Tryz.prog 100 #[.pointer (some ⟨b,0,none⟩),.agg (stC s p).toArray] w fun r w'=>PrE B b w (l++rHd s) r w':=by
 have HD:rHd s=[98,108,111,99,107,32]++tx s.name.name++t_via++prR s.routes:=by
  unfold rHd
  rw[hk]
  first|rfl|(unfold prLine;first|rfl|simp[List.append_assoc])
 rw[HD]at hl ⊢;clear HD;obtain⟨XN,hXN⟩:=ex9 (s.name.name);have HXV:Hid (PW B b w 121 [.slice p.r.1 s.routes.length p.r.2] ((t_via++prR s.routes))):=fun l' W h1 h2 h3 hW=>zhx p.r.1 s.routes _ p.r.2 rfl hin.hr h1 h2 h3 hF (hin.r.keep (zat hF hW))
 obtain⟨C,hC⟩:=ex9 (stC s p);have k0:C[0]? = some (.string s.kind):=by rw[hC];rfl
 have HKN:Hid (C[2]? = some (.string XN)):=by show _=_;rw[hC,hXN];rfl
 have HKV:Hid (C[19]? = some (.slice p.r.1 s.routes.length p.r.2)):=by show _=_;rw[hC];rfl
 rw[hk]at k0;rw[←hXN]at hl ⊢;rw[←hC];have HBL:=qh h.lt;have H0:=qh ((PrS.start h hB).al (.cells C.toArray 42));have HD0:Hid (Blk (w.alloc (.cells C.toArray 42)) w.heap.size 42 C):=Blk.new _ _ _;have HL:=qh hl;have c0:(w.alloc (.cells C.toArray 42)).cell? ⟨w.heap.size,0,none⟩=some (.string k_block):=(HD0.out.cell 0).trans k0;clear k0 hC hl h hin hk hT hXN;have ldN:(w.alloc (.cells C.toArray 42)).cell? ⟨w.heap.size,2,none⟩=some (.string XN):=(HD0.out.cell 2).trans HKN.out
 go_enter Tryz.func100, Tryz.ntmps100
 go_wp2_with (first
  | (go_at_call 121;(have hz:=H1.out.hB;clear hz);(refine(HXV.out _ _ (by exact H1.out.p) (by exact Nat.le_trans H1.out.hB H1.out.bl.size) (by have:=HL.out;simp[flatS,tx]at this ⊢;omega) (by exact H1.out.bl)).mono ?_);rintro e w2 h2;have H2:=qh (H1.out.st h2);have HD2:Hid (Blk w2 w.heap.size 42 C):=h2.2.2.2.blk HD1.out (by have:=HBL.out;omega) (by decide);clear ldV; obtain⟨rfl,_⟩:=h2)
  | (go_at_call 70;(refine(zad H0.out _ sy [{ data:=#[98,108,111,99,107,32] },XN] 2 rfl (by decide) (by have:=HL.out;simp[flatS,tx]at this ⊢;omega)).mono ?_);rintro e w1 h1;have H1:=qh ((H0.out.al _).st h1);have HD1:Hid (Blk w1 w.heap.size 42 C):=h1.2.2.2.blk (HD0.out.alloc _) (by have:=HBL.out;omega) (by decide);have ldV:w1.cell? ⟨w.heap.size,19,none⟩=some (.slice p.r.1 s.routes.length p.r.2):=(HD1.out.cell 19).trans HKV.out; obtain⟨rfl,_⟩:=h1))
 go_end0
 have h6:=H2.out.fin;rw[show l++flatS [{ data:=#[98,108,111,99,107,32] },XN]++(t_via++prR s.routes)=l++([98,108,111,99,107,32]++tx XN++t_via++prR s.routes) by simp[flatS,tx,List.append_assoc]]at h6;exact h6
theorem zm3{F:Nat→Prop}(s:St)(p:StA)(hk:s.kind=k_retry)(hin:LIn F w s p)(h:IsP B b l w)(hB:B≤w.heap.size)(hl:l.length+(rHd s).length≤1000000000)(hF:∀k,F k→k<B)(hT:Tab B w):Calls Tryz.prog 100 #[.pointer (some ⟨b,0,none⟩),.agg (stC s p).toArray] w fun r w'=>PrE B b w (l++rHd s) r w':=by
 have HD:rHd s=[114,101,116,114,121,32]++prE s.ea++[32,101,118,101,114,121,32]++prE s.eb++[32,115,101,110,100,32]++prE s.ec++t_via++prR s.routes++nmd t_as s.tag:=by
  unfold rHd
  rw[hk]
  first|rfl|(unfold prLine;first|rfl|simp[List.append_assoc])
 rw[HD]at hl ⊢;clear HD;have HXA:Hid (PW B b w 71 [.agg (exC s.ea p.a).toArray] (prE s.ea)):=fun l' W h1 h2 h3 hW=>zch hin.oa p.a B b l' W h1 h2 h3 hF (hin.a.keep (zat hF hW)) (hT.mv hW)
 have HXB:Hid (PW B b w 71 [.agg (exC s.eb p.b).toArray] (prE s.eb)):=fun l' W h1 h2 h3 hW=>zch hin.ob p.b B b l' W h1 h2 h3 hF (hin.b.keep (zat hF hW)) (hT.mv hW)
 have HXC:Hid (PW B b w 71 [.agg (exC s.ec p.c).toArray] (prE s.ec)):=fun l' W h1 h2 h3 hW=>zch hin.oc p.c B b l' W h1 h2 h3 hF (hin.c.keep (zat hF hW)) (hT.mv hW)
 have HXV:Hid (PW B b w 121 [.slice p.r.1 s.routes.length p.r.2] ((t_via++prR s.routes))):=fun l' W h1 h2 h3 hW=>zhx p.r.1 s.routes _ p.r.2 rfl hin.hr h1 h2 h3 hF (hin.r.keep (zat hF hW))
 have HXT:Hid (PW B b w 122 [.string { data:=#[32,97,115,32] },.agg #[.string s.tag.name,.int .i64 s.tag.at_]] (nmd t_as s.tag)):=fun l' W h1 h2 h3 hW=>zeb { data:=#[32,97,115,32] } s.tag h1 h2 h3
 obtain⟨C,hC⟩:=ex9 (stC s p);have k0:C[0]? = some (.string s.kind):=by rw[hC];rfl
 obtain⟨CA,hCA⟩:=ex9 (exC s.ea p.a);have HKA:Hid (∀j v,CA[j]? = some v→C[4+j]? = some v):=by show ∀j v,_;rw[hC,hCA];exact stC_a s p
 have HLA:Hid (CA.length=5):=by show _=_;rw[hCA];rfl
 rw[←hCA]at HXA;clear hCA;obtain⟨CB,hCB⟩:=ex9 (exC s.eb p.b);have HKB:Hid (∀j v,CB[j]? = some v→C[9+j]? = some v):=by show ∀j v,_;rw[hC,hCB];exact stC_b s p
 have HLB:Hid (CB.length=5):=by show _=_;rw[hCB];rfl
 rw[←hCB]at HXB;clear hCB;obtain⟨CC,hCC⟩:=ex9 (exC s.ec p.c);have HKC:Hid (∀j v,CC[j]? = some v→C[14+j]? = some v):=by show ∀j v,_;rw[hC,hCC];exact stC_c s p
 have HLC:Hid (CC.length=5):=by show _=_;rw[hCC];rfl
 rw[←hCC]at HXC;clear hCC;have HKV:Hid (C[19]? = some (.slice p.r.1 s.routes.length p.r.2)):=by show _=_;rw[hC];rfl
 have HKT:Hid (∀j v,(rfC s.tag)[j]? = some v→C[22+j]? = some v):=by show ∀j v,_;rw[hC];exact stC_t s p
 rw[hk]at k0;rw[←hC];have HBL:=qh h.lt;have H0:=qh ((PrS.start h hB).al (.cells C.toArray 42));have HD0:Hid (Blk (w.alloc (.cells C.toArray 42)) w.heap.size 42 C):=Blk.new _ _ _;have HL:=qh hl;have c0:(w.alloc (.cells C.toArray 42)).cell? ⟨w.heap.size,0,none⟩=some (.string k_retry):=(HD0.out.cell 0).trans k0;clear k0 hC hl h hin hk hT
 go_enter Tryz.func100, Tryz.ntmps100
 go_wp2_with (first
  | (go_at_call 122;(have hz:=H7.out.hB;clear hz);(refine(HXT.out _ _ (by exact H7.out.p) (by exact Nat.le_trans H7.out.hB H7.out.bl.size) (by have:=HL.out;simp[flatS,tx]at this ⊢;omega) (by exact H7.out.bl)).mono ?_);rintro e w8 h8;have H8:=qh (H7.out.st h8);have HD8:Hid (Blk w8 w.heap.size 42 C):=h8.2.2.2.blk HD7.out (by have:=HBL.out;omega) (by decide);clear ldT ltT; obtain⟨rfl,_⟩:=h8)
  | (go_at_call 121;(have hz:=H6.out.hB;clear hz);(refine(HXV.out _ _ (by exact H6.out.p) (by exact Nat.le_trans H6.out.hB H6.out.bl.size) (by have:=HL.out;simp[flatS,tx]at this ⊢;omega) (by exact H6.out.bl)).mono ?_);rintro e w7 h7;have H7:=qh (H6.out.st h7);have HD7:Hid (Blk w7 w.heap.size 42 C):=h7.2.2.2.blk HD6.out (by have:=HBL.out;omega) (by decide);clear ldV;have ldT:w7.cell? ⟨w.heap.size,22,none⟩=some (.string s.tag.name):=(HD7.out.cell 22).trans (HKT.out 0 _ rfl);have ltT:w7.cell? ⟨w.heap.size,23,none⟩=some (.int .i64 s.tag.at_):=(HD7.out.cell 23).trans (HKT.out 1 _ rfl); obtain⟨rfl,_⟩:=h7)
  | (go_at_call 71;(have hz:=H5.out.hB;clear hz);(refine(HXC.out _ _ (by exact H5.out.p) (by exact Nat.le_trans H5.out.hB H5.out.bl.size) (by have:=HL.out;simp[flatS,tx]at this ⊢;omega) (by exact H5.out.bl)).mono ?_);rintro e w6 h6;have H6:=qh (H5.out.st h6);have HD6:Hid (Blk w6 w.heap.size 42 C):=h6.2.2.2.blk HD5.out (by have:=HBL.out;omega) (by decide);clear ldC;have ldV:w6.cell? ⟨w.heap.size,19,none⟩=some (.slice p.r.1 s.routes.length p.r.2):=(HD6.out.cell 19).trans HKV.out; obtain⟨rfl,_⟩:=h6)
  | (go_at_call 70;(refine(zad H4.out _ sy [{ data:=#[32,115,101,110,100,32] }] 1 rfl (by decide) (by have:=HL.out;simp[flatS,tx]at this ⊢;omega)).mono ?_);rintro e w5 h5;have H5:=qh ((H4.out.al _).st h5);have HD5:Hid (Blk w5 w.heap.size 42 C):=h5.2.2.2.blk (HD4.out.alloc _) (by have:=HBL.out;omega) (by decide);have ldC:(ldAt 39 (.pointer (some ⟨w.heap.size,14,none⟩))).run Tryz.prog w5=.ok (.agg CC.toArray) w5:=run_loadAt_mid w5 w.heap.size 14 39 CC _ (HD5.out.mid 14 _ HKC.out) Tryz.underlying39 rfl (by rw[HLC.out];exact hdEx); obtain⟨rfl,_⟩:=h5)
  | (go_at_call 71;(have hz:=H3.out.hB;clear hz);(refine(HXB.out _ _ (by exact H3.out.p) (by exact Nat.le_trans H3.out.hB H3.out.bl.size) (by have:=HL.out;simp[flatS,tx]at this ⊢;omega) (by exact H3.out.bl)).mono ?_);rintro e w4 h4;have H4:=qh (H3.out.st h4);have HD4:Hid (Blk w4 w.heap.size 42 C):=h4.2.2.2.blk HD3.out (by have:=HBL.out;omega) (by decide);clear ldB; obtain⟨rfl,_⟩:=h4)
  | (go_at_call 70;(refine(zad H2.out _ sy [{ data:=#[32,101,118,101,114,121,32] }] 1 rfl (by decide) (by have:=HL.out;simp[flatS,tx]at this ⊢;omega)).mono ?_);rintro e w3 h3;have H3:=qh ((H2.out.al _).st h3);have HD3:Hid (Blk w3 w.heap.size 42 C):=h3.2.2.2.blk (HD2.out.alloc _) (by have:=HBL.out;omega) (by decide);have ldB:(ldAt 39 (.pointer (some ⟨w.heap.size,9,none⟩))).run Tryz.prog w3=.ok (.agg CB.toArray) w3:=run_loadAt_mid w3 w.heap.size 9 39 CB _ (HD3.out.mid 9 _ HKB.out) Tryz.underlying39 rfl (by rw[HLB.out];exact hdEx); obtain⟨rfl,_⟩:=h3)
  | (go_at_call 71;(have hz:=H1.out.hB;clear hz);(refine(HXA.out _ _ (by exact H1.out.p) (by exact Nat.le_trans H1.out.hB H1.out.bl.size) (by have:=HL.out;simp[flatS,tx]at this ⊢;omega) (by exact H1.out.bl)).mono ?_);rintro e w2 h2;have H2:=qh (H1.out.st h2);have HD2:Hid (Blk w2 w.heap.size 42 C):=h2.2.2.2.blk HD1.out (by have:=HBL.out;omega) (by decide);clear ldA; obtain⟨rfl,_⟩:=h2)
  | (go_at_call 70;(refine(zad H0.out _ sy [{ data:=#[114,101,116,114,121,32] }] 1 rfl (by decide) (by have:=HL.out;simp[flatS,tx]at this ⊢;omega)).mono ?_);rintro e w1 h1;have H1:=qh ((H0.out.al _).st h1);have HD1:Hid (Blk w1 w.heap.size 42 C):=h1.2.2.2.blk (HD0.out.alloc _) (by have:=HBL.out;omega) (by decide);have ldA:(ldAt 39 (.pointer (some ⟨w.heap.size,4,none⟩))).run Tryz.prog w1=.ok (.agg CA.toArray) w1:=run_loadAt_mid w1 w.heap.size 4 39 CA _ (HD1.out.mid 4 _ HKA.out) Tryz.underlying39 rfl (by rw[HLA.out];exact hdEx); obtain⟨rfl,_⟩:=h1))
 go_end0
 have h6:=H8.out.fin;rw[show l++flatS [{ data:=#[114,101,116,114,121,32] }]++prE s.ea++flatS [{ data:=#[32,101,118,101,114,121,32] }]++prE s.eb++flatS [{ data:=#[32,115,101,110,100,32] }]++prE s.ec++(t_via++prR s.routes)++nmd t_as s.tag=l++([114,101,116,114,121,32]++prE s.ea++[32,101,118,101,114,121,32]++prE s.eb++[32,115,101,110,100,32]++prE s.ec++t_via++prR s.routes++nmd t_as s.tag) by simp[flatS,tx,List.append_assoc]]at h6;exact h6
theorem zm4{F:Nat→Prop}(s:St)(p:StA)(hk:s.kind=k_every)(hin:LIn F w s p)(h:IsP B b l w)(hB:B≤w.heap.size)(hl:l.length+(rHd s).length≤1000000000)(hF:∀k,F k→k<B)(hT:Tab B w):Calls Tryz.prog 100 #[.pointer (some ⟨b,0,none⟩),.agg (stC s p).toArray] w fun r w'=>PrE B b w (l++rHd s) r w':=by
 have HD:rHd s=[101,118,101,114,121,32]++prE s.ea++[32,116,105,109,101,115,32]++prE s.eb++[32,99,111,118,101,114,32]++prR s.routes:=by
  unfold rHd
  rw[hk]
  first|rfl|(unfold prLine;first|rfl|simp[List.append_assoc])
 rw[HD]at hl ⊢;clear HD;have HXA:Hid (PW B b w 71 [.agg (exC s.ea p.a).toArray] (prE s.ea)):=fun l' W h1 h2 h3 hW=>zch hin.oa p.a B b l' W h1 h2 h3 hF (hin.a.keep (zat hF hW)) (hT.mv hW)
 have HXB:Hid (PW B b w 71 [.agg (exC s.eb p.b).toArray] (prE s.eb)):=fun l' W h1 h2 h3 hW=>zch hin.ob p.b B b l' W h1 h2 h3 hF (hin.b.keep (zat hF hW)) (hT.mv hW)
 have HXQ:Hid (PW B b w 123 [.slice p.r.1 s.routes.length p.r.2] (prR s.routes)):=fun l' W h1 h2 h3 hW=>zej p.r.1 s.routes _ p.r.2 rfl hin.hr h1 h2 h3 hF (hin.r.keep (zat hF hW))
 obtain⟨C,hC⟩:=ex9 (stC s p);have k0:C[0]? = some (.string s.kind):=by rw[hC];rfl
 obtain⟨CA,hCA⟩:=ex9 (exC s.ea p.a);have HKA:Hid (∀j v,CA[j]? = some v→C[4+j]? = some v):=by show ∀j v,_;rw[hC,hCA];exact stC_a s p
 have HLA:Hid (CA.length=5):=by show _=_;rw[hCA];rfl
 rw[←hCA]at HXA;clear hCA;obtain⟨CB,hCB⟩:=ex9 (exC s.eb p.b);have HKB:Hid (∀j v,CB[j]? = some v→C[9+j]? = some v):=by show ∀j v,_;rw[hC,hCB];exact stC_b s p
 have HLB:Hid (CB.length=5):=by show _=_;rw[hCB];rfl
 rw[←hCB]at HXB;clear hCB;have HKQ:Hid (C[19]? = some (.slice p.r.1 s.routes.length p.r.2)):=by show _=_;rw[hC];rfl
 rw[hk]at k0;rw[←hC];have HBL:=qh h.lt;have H0:=qh ((PrS.start h hB).al (.cells C.toArray 42));have HD0:Hid (Blk (w.alloc (.cells C.toArray 42)) w.heap.size 42 C):=Blk.new _ _ _;have HL:=qh hl;have c0:(w.alloc (.cells C.toArray 42)).cell? ⟨w.heap.size,0,none⟩=some (.string k_every):=(HD0.out.cell 0).trans k0;clear k0 hC hl h hin hk hT
 go_enter Tryz.func100, Tryz.ntmps100
 go_wp2_with (first
  | (go_at_call 123;(have hz:=H5.out.hB;clear hz);(refine(HXQ.out _ _ (by exact H5.out.p) (by exact Nat.le_trans H5.out.hB H5.out.bl.size) (by have:=HL.out;simp[flatS,tx]at this ⊢;omega) (by exact H5.out.bl)).mono ?_);rintro e w6 h6;have H6:=qh (H5.out.st h6);have HD6:Hid (Blk w6 w.heap.size 42 C):=h6.2.2.2.blk HD5.out (by have:=HBL.out;omega) (by decide);clear ldQ; obtain⟨rfl,_⟩:=h6)
  | (go_at_call 70;(refine(zad H4.out _ sy [{ data:=#[32,99,111,118,101,114,32] }] 1 rfl (by decide) (by have:=HL.out;simp[flatS,tx]at this ⊢;omega)).mono ?_);rintro e w5 h5;have H5:=qh ((H4.out.al _).st h5);have HD5:Hid (Blk w5 w.heap.size 42 C):=h5.2.2.2.blk (HD4.out.alloc _) (by have:=HBL.out;omega) (by decide);have ldQ:w5.cell? ⟨w.heap.size,19,none⟩=some (.slice p.r.1 s.routes.length p.r.2):=(HD5.out.cell 19).trans HKQ.out; obtain⟨rfl,_⟩:=h5)
  | (go_at_call 71;(have hz:=H3.out.hB;clear hz);(refine(HXB.out _ _ (by exact H3.out.p) (by exact Nat.le_trans H3.out.hB H3.out.bl.size) (by have:=HL.out;simp[flatS,tx]at this ⊢;omega) (by exact H3.out.bl)).mono ?_);rintro e w4 h4;have H4:=qh (H3.out.st h4);have HD4:Hid (Blk w4 w.heap.size 42 C):=h4.2.2.2.blk HD3.out (by have:=HBL.out;omega) (by decide);clear ldB; obtain⟨rfl,_⟩:=h4)
  | (go_at_call 70;(refine(zad H2.out _ sy [{ data:=#[32,116,105,109,101,115,32] }] 1 rfl (by decide) (by have:=HL.out;simp[flatS,tx]at this ⊢;omega)).mono ?_);rintro e w3 h3;have H3:=qh ((H2.out.al _).st h3);have HD3:Hid (Blk w3 w.heap.size 42 C):=h3.2.2.2.blk (HD2.out.alloc _) (by have:=HBL.out;omega) (by decide);have ldB:(ldAt 39 (.pointer (some ⟨w.heap.size,9,none⟩))).run Tryz.prog w3=.ok (.agg CB.toArray) w3:=run_loadAt_mid w3 w.heap.size 9 39 CB _ (HD3.out.mid 9 _ HKB.out) Tryz.underlying39 rfl (by rw[HLB.out];exact hdEx); obtain⟨rfl,_⟩:=h3)
  | (go_at_call 71;(have hz:=H1.out.hB;clear hz);(refine(HXA.out _ _ (by exact H1.out.p) (by exact Nat.le_trans H1.out.hB H1.out.bl.size) (by have:=HL.out;simp[flatS,tx]at this ⊢;omega) (by exact H1.out.bl)).mono ?_);rintro e w2 h2;have H2:=qh (H1.out.st h2);have HD2:Hid (Blk w2 w.heap.size 42 C):=h2.2.2.2.blk HD1.out (by have:=HBL.out;omega) (by decide);clear ldA; obtain⟨rfl,_⟩:=h2)
  | (go_at_call 70;(refine(zad H0.out _ sy [{ data:=#[101,118,101,114,121,32] }] 1 rfl (by decide) (by have:=HL.out;simp[flatS,tx]at this ⊢;omega)).mono ?_);rintro e w1 h1;have H1:=qh ((H0.out.al _).st h1);have HD1:Hid (Blk w1 w.heap.size 42 C):=h1.2.2.2.blk (HD0.out.alloc _) (by have:=HBL.out;omega) (by decide);have ldA:(ldAt 39 (.pointer (some ⟨w.heap.size,4,none⟩))).run Tryz.prog w1=.ok (.agg CA.toArray) w1:=run_loadAt_mid w1 w.heap.size 4 39 CA _ (HD1.out.mid 4 _ HKA.out) Tryz.underlying39 rfl (by rw[HLA.out];exact hdEx); obtain⟨rfl,_⟩:=h1))
 go_end0
 have h6:=H6.out.fin;rw[show l++flatS [{ data:=#[101,118,101,114,121,32] }]++prE s.ea++flatS [{ data:=#[32,116,105,109,101,115,32] }]++prE s.eb++flatS [{ data:=#[32,99,111,118,101,114,32] }]++prR s.routes=l++([101,118,101,114,121,32]++prE s.ea++[32,116,105,109,101,115,32]++prE s.eb++[32,99,111,118,101,114,32]++prR s.routes) by simp[flatS,tx,List.append_assoc]]at h6;exact h6
theorem pl_all{F:Nat→Prop}{ts:List Lx.Tok}(s:St)(p:StA)(hs:WfS ts s)(hb:isB s=false)(hin:LIn F w s p)(h:IsP B b l w)(hB:B≤w.heap.size)(hl:l.length+(rHd s).length≤1000000000)(hF:∀k,F k→k<B)(hT:Tab B w):Calls Tryz.prog 100 #[.pointer (some ⟨b,0,none⟩),.agg (stC s p).toArray] w fun r w'=>PrE B b w (l++rHd s) r w':=by
 cases hs with
 | send=>exact zpa _ p rfl hin h hB hl hF hT
 | split=>exact zm2 _ p rfl hin h hB hl hF hT
 | cover=>exact zm5 _ p rfl hin h hB hl hF hT
 | wait=>exact zo9 _ p rfl hin h hB hl hF hT
 | block=>exact zm6 _ p rfl hin h hB hl hF hT
 | retry=>exact zm3 _ p rfl hin h hB hl hF hT
 | every=>exact zm4 _ p rfl hin h hB hl hF hT
 | after=>exact absurd hb (by rw[zgp];simp)
 | repeat_=>exact absurd hb (by rw[zgp];simp)
 | if_=>exact absurd hb (by rw[zgp];simp)
end
end
section
def PsK(F:Nat→Prop)(s:St):Prop :=
 ∀(B b d:Nat) (l:List UInt8) (w:World) (p:StA),IsP B b l w→B≤w.heap.size→l.length+(prSt s d).length≤1000000000→(∀k,F k→k<B)→StIn F w s p→d+bd s≤12→Tab B w→Calls Tryz.prog 74 #[.pointer (some ⟨b,0,none⟩),.agg (stC s p).toArray,.int .i64 d] w fun r w'=>PrE B b w (l++prSt s d) r w'
def PbK(F:Nat→Prop)(ss:List St):Prop :=
 ∀(B b d:Nat) (l:List UInt8) (w:World) (A:Option Addr) (ca:Nat),IsP B b l w→B≤w.heap.size→l.length+(prBody d (prSs ss (d+1))).length≤1000000000→(∀k,F k→k<B)→BodyIn F w A ss→d+1+bdL ss≤12→Tab B w→Calls Tryz.prog 99 #[.pointer (some ⟨b,0,none⟩),.slice A ss.length ca,.int .i64 d] w fun r w'=>PrE B b w (l++prBody d (prSs ss (d+1))) r w'
theorem zlf{s:St}: ∀ {l:List St},s∈l→bd s≤bdL l
 | x :: l,h=>by
  rw[bdL]
  rcases List.mem_cons.1 h with rfl|h
  · omega
  · have:=zlf h;omega
section
variable{w w' w0:World}{b B g d:Nat}{l l':List UInt8}
attribute [local go_sem ↓] zky zfh
theorem zff{F:Nat→Prop}(ss:List St)(hx:∀s∈ss,PsK F s)(A:Option Addr)(n ca:Nat)(hn:ss.length=n)(hn8:n≤1000000)(hd:d+bdL ss≤12)(h:IsP B b l w)(hB:B≤w.heap.size)(hl:l.length+(prSs ss d).length≤1000000000)(hF:∀k,F k→k<B)(hA:BodyIn F w A ss)(hT:Tab B w):
 Calls Tryz.prog 35 #[.pointer (some ⟨b,0,none⟩),.slice A n ca,.int .i64 d] w fun r w'=>PrE B b w (l++prSs ss d) r w':=by
 have H0:Hid (PrS B b w (l++prSs (ss.take 0) d) w):=by
  show PrS _ _ _ _ _
  simpa[prSs] using PrS.start h hB
 have HA:Hid (∀W,Below B w W→BodyIn F W A ss):=fun W hW=>hA.keep (zat hF hW)
 have HN:=qh hn;have HS1:Hid (∀i (hi:i<ss.length),prSs (ss.take (i+1)) d=prSs (ss.take i) d++(ind d++prSt ss[i] d)):=fun i hi=>zek d ss i hi
 have HSL:Hid (∀i,l.length+(prSs (ss.take i) d).length≤1000000000):=fun i=>by have:=zha d ss i;omega
 have HSN:Hid (prSs (ss.take n) d=prSs ss d):=(by show _=_;rw[tk om])
 have HXT:Hid (∀i (hi:i<ss.length) (p:StA) (l':List UInt8) W,IsP B b l' W→B≤W.heap.size→l'.length+(prSt ss[i] d).length≤1000000000→StIn F W ss[i] p→Below B w W→Calls Tryz.prog 74 #[.pointer (some ⟨b,0,none⟩),.agg (stC ss[i] p).toArray,.int .i64 d] W fun r w'=>PrE B b W (l'++prSt ss[i] d) r w'):=fun i hi p l' W h1 h2 h3 h4 hW =>
  hx _ (List.getElem_mem hi) B b d l' W p h1 h2 h3 hF h4 (by have:=zlf (List.getElem_mem hi);omega) (hT.mv hW)
 have HI:Hid (∀(l':List UInt8) W,IsP B b l' W→B≤W.heap.size→l'.length+(ind d).length≤1000000000→Calls Tryz.prog 73 #[.pointer (some ⟨b,0,none⟩),.int .i64 d] W fun r w'=>PrE B b W (l'++ind d) r w'):=fun l' W h1 h2 h3=>zgj d om h1 h2 h3
 have HFF:=qh hF;clear h hA hn hl hx hT hd;have hn9:(n:Int)≤1000000:=om
 go_enter Tryz.func35, Tryz.ntmps35
 go_wp2
 go_loopg [10] n (fun kk q wr=>∃i:Nat,i≤n∧kk=n-i∧q=.int .i64 (i:Int)∧Hid (PrS B b w (l++prSs (ss.take i) d) wr))
 case atStart=>exact⟨0,by omega,by omega,rfl,H0⟩
 case round =>
  clear H0;obtain⟨i,hik,hk,rfl,HS⟩:=hrel
  by_cases hi:i<n
  · have hil:i<ss.length:=by have:=HN.out;omega
    obtain⟨gb,ob,p,rfl,hgb,hrg,hst⟩:=zbr (HA.out wr HS.out.bl) i hil;have hii:(i:Int)<(n:Int):=om;have HST:=qh hst;have HXI:=qh (HXT.out i hil p);have HSI:=qh (HS1.out i hil);have HLI:=qh (HSL.out (i+1));clear hst HXT HS1 HSL HA;generalize ss[i]=s at *;have HCL:=qh (zba s p);have HCO:=qh (zax s p);generalize stC s p=cells at *;have hld:=run_loadAt_mid wr gb (ob+i*26) 42 cells _ hrg Tryz.underlying42 rfl (by rw[HCL.out];exact hdSt);have hld2:(ldAt 42 (.pointer (some ⟨gb,ob+i*26,none⟩))).run Tryz.prog wr=.ok (.agg cells.toArray) wr:=hld;have HBL:=qh HS.out.p.lt;clear hld hrg
    go_wp2_with (first
     | (go_at_call 74;(refine(HXI.out _ _ (by exact H2.out.p) (by exact Nat.le_trans H2.out.hB H2.out.bl.size) (by have h7:=HLI.out;rw[HSI.out]at h7;simp at h7 ⊢;omega) (by exact HT2.out) (by exact H2.out.bl)).mono ?_);rintro e w3 h3;have H3:=qh (H2.out.st h3);obtain⟨rfl,_⟩:=h3)
     | (go_at_call 73;(refine(HI.out _ _ (by exact H1.out.p) (by exact Nat.le_trans H1.out.hB H1.out.bl.size) (by have h7:=HLI.out;rw[HSI.out]at h7;simp at h7 ⊢;omega)).mono ?_);rintro e w2 h2;have H2:=qh (H1.out.st h2);have hb2:Blk w2 wr.heap.size 42 cells:=h2.2.2.2.blk HB1.out (by have:=HBL.out;omega) (by decide);have HT2:Hid (StIn F w2 s p):=HT1.out.keep (zat HFF.out h2.2.2.1);have hl2:=zbg hb2 42 0 cells sy _ Tryz.underlying42 rfl (by rw[HCL.out];exact hdSt);obtain⟨rfl,_⟩:=h2;clear hb2)
     | (refine zaa rfl 42 (.tmp 7) (.tmp 13) rfl wr.heap.size cells rr rr 42 (stC zT pA0) (by exact Blk.new' rfl rfl) (by rw[HCL.out];exact hdSt) HCO.out HCL.out ?_;intro w1 hb1 ho1;have HB1:=qh hb1;have hbw:Below B wr w1:=ho1.below ((Below.refl B wr).alloc (Nat.le_trans HS.out.hB HS.out.bl.size) _) (Nat.le_trans HS.out.hB HS.out.bl.size) (by have:=Nat.le_trans HS.out.hB HS.out.bl.size;simp;omega);have H1:Hid (PrS B b w (l++prSs (ss.take i) d) w1):=⟨HS.out.p.fresh ho1,HS.out.bl.trans hbw,HS.out.ot.trans (Oth.fresh ho1),HS.out.hB⟩;have HT1:Hid (StIn F w1 s p):=HST.out.keep (zat HFF.out hbw);clear hb1 ho1 hbw))
    have H6:Hid (PrS B b w (l++prSs (ss.take (i+1)) d) w3):=by
     have h6:=H3.out
     show PrS B b w _ w3
     rw[HSI.out]
     simpa[List.append_assoc] using h6
    go_roundg (n-(i+1))
    case measure=>omega
    case rel=>exact⟨i+1,by omega,by omega,by simp,H6⟩
  · have hii:¬(i:Int)<(n:Int):=om
    obtain rfl:i=n:=om;clear HA HS1 HSL HXT;go_wp2
    go_end0
    have h7:=HS.out.fin;rw[HSN.out]at h7;exact h7
theorem zct{F:Nat→Prop}(ss:List St)(hx:∀s∈ss,PsK F s)(hn8:ss.length≤1000000):PbK F ss:=by
 intro B b d l w A ca h hB hl hF hA hd hT;have H0:=qh (PrS.start h hB)
 have HX:Hid (PW B b w 35 [.slice A ss.length ca,.int .i64 ((d:Int)+1)] (prSs ss (d+1))):=fun l' W h1 h2 h3 hW =>
  zff (d:=d+1) ss hx A _ ca rfl hn8 om h1 h2 h3 hF (hA.keep (zat hF hW)) (hT.mv hW)
 have HI:Hid (∀(l':List UInt8) W,IsP B b l' W→B≤W.heap.size→l'.length+(ind d).length≤1000000000→Calls Tryz.prog 73 #[.pointer (some ⟨b,0,none⟩),.int .i64 d] W fun r w'=>PrE B b W (l'++ind d) r w'):=fun l' W h1 h2 h3=>zgj d om h1 h2 h3
 have hd9:(d:Int)≤12:=om;have HL:=qh hl;clear h hA hx hl hF hT hd
 unfold prBody at *
 generalize prSs ss (d+1)=P at *
 go_enter Tryz.func99, Tryz.ntmps99
 go_wp2_with (first
  | (go_at_call 70;(refine(zad H4.out _ sy [{ data:=#[125] }] 1 rfl (by decide) (by have:=HL.out;simp[flatS]at this ⊢;omega)).mono ?_);rintro e w5 h5;have H5:=qh ((H4.out.al _).st h5);obtain⟨rfl,_⟩:=h5)
  | (go_at_call 73;(refine(HI.out _ _ (by exact H3.out.p) (by exact Nat.le_trans H3.out.hB H3.out.bl.size) (by have:=HL.out;simp[flatS]at this ⊢;omega)).mono ?_);rintro e w4 h4;have H4:=qh (H3.out.st h4);obtain⟨rfl,_⟩:=h4)
  | (go_at_call 35;(refine(HX.out _ _ (by exact H2.out.p) (by exact Nat.le_trans H2.out.hB H2.out.bl.size) (by have:=HL.out;simp[flatS]at this ⊢;omega) (by exact H2.out.bl)).mono ?_);rintro e w3 h3;have H3:=qh (H2.out.st h3);obtain⟨rfl,_⟩:=h3)
  | (go_at_call 70;(refine(zad H0.out _ sy [{ data:=#[32,123,10] }] 1 rfl (by decide) (by have:=HL.out;simp[flatS]at this ⊢;omega)).mono ?_);rintro e w2 h2;have H2:=qh ((H0.out.al _).st h2);obtain⟨rfl,_⟩:=h2))
 go_end0
 have h6:=H5.out.fin;rw[show l++flatS [{ data:=#[32,123,10] }]++P++ind d++flatS [{ data:=#[125] }]=l++([32,123,10]++P++ind d++[125]) by simp[flatS,List.append_assoc]]at h6;exact h6
theorem zm0{F:Nat→Prop}{ts:List Lx.Tok}(s:St)(p:StA)(hk:s.kind=k_after)(hy:PbK F s.body)(hdy:d+1+bdL s.body≤12)(hli:LIn F w s p)(hin:StIn F w s p)(h:IsP B b l w)(hB:B≤w.heap.size)(hl:l.length+(prSt s d).length≤1000000000)(hF:∀k,F k→k<B)(hT:Tab B w):Calls Tryz.prog 74 #[.pointer (some ⟨b,0,none⟩),.agg (stC s p).toArray,.int .i64 d] w fun r w'=>PrE B b w (l++prSt s d) r w':=by
 have HD:prSt s d=[97,102,116,101,114,32]++prE s.ea++prBody d (prSs s.body (d+1))++[10]:=by
  rw[zcp d (isB_t (by rw[hk];simp)) (fun h=>absurd (hk.symm.trans h) (by decide)),rHd,hk]
  simp[List.append_assoc]
 rw[HD]at hl ⊢;clear HD;have HXA:Hid (PW B b w 71 [.agg (exC s.ea p.a).toArray] (prE s.ea)):=fun l' W h1 h2 h3 hW=>zch hli.oa p.a B b l' W h1 h2 h3 hF (hli.a.keep (zat hF hW)) (hT.mv hW)
 have HXY:Hid (PW B b w 99 [.slice p.y.1 s.body.length p.y.2,.int .i64 d] (prBody d (prSs s.body (d+1)))):=fun l' W h1 h2 h3 hW=>hy B b d l' W p.y.1 p.y.2 h1 h2 h3 hF (hin.2.1.keep (zat hF hW)) hdy (hT.mv hW)
 obtain⟨C,hC⟩:=ex9 (stC s p);have k0:C[0]? = some (.string s.kind):=by rw[hC];rfl
 obtain⟨CA,hCA⟩:=ex9 (exC s.ea p.a);have HKA:Hid (∀j v,CA[j]? = some v→C[4+j]? = some v):=by show ∀j v,_;rw[hC,hCA];exact stC_a s p
 have HLA:Hid (CA.length=5):=by show _=_;rw[hCA];rfl
 rw[←hCA]at HXA;clear hCA;have HKY:Hid (C[24]? = some (.slice p.y.1 s.body.length p.y.2)):=by show _=_;rw[hC];rfl
 have HCL:Hid (C.length=26):=by show _=_;rw[hC];rfl
 rw[hk]at k0;rw[←hC];have HBL:=qh h.lt;have H0:=qh ((PrS.start h hB).al (.cells C.toArray 42));have HD0:Hid (Blk (w.alloc (.cells C.toArray 42)) w.heap.size 42 C):=Blk.new _ _ _;have HL:=qh hl;have c0:(w.alloc (.cells C.toArray 42)).cell? ⟨w.heap.size,0,none⟩=some (.string k_after):=(HD0.out.cell 0).trans k0;clear k0 hC hl h hin hli hT hk hy
 go_enter Tryz.func74, Tryz.ntmps74
 go_wp2_with (first
  | (go_at_call 70;(refine(zad H3.out _ sy [{ data:=#[10] }] 1 rfl (by decide) (by have:=HL.out;simp[flatS,tx]at this ⊢;omega)).mono ?_);rintro e w4 h4;have H4:=qh ((H3.out.al _).st h4);have HD4:Hid (Blk w4 w.heap.size 42 C):=h4.2.2.2.blk (HD3.out.alloc _) (by have:=HBL.out;omega) (by decide); obtain⟨rfl,_⟩:=h4)
  | (go_at_call 99;(have hz:=H2.out.hB;clear hz);(refine(HXY.out _ _ (by exact H2.out.p) (by exact Nat.le_trans H2.out.hB H2.out.bl.size) (by have:=HL.out;simp[flatS,tx]at this ⊢;omega) (by exact H2.out.bl)).mono ?_);rintro e w3 h3;have H3:=qh (H2.out.st h3);have HD3:Hid (Blk w3 w.heap.size 42 C):=h3.2.2.2.blk HD2.out (by have:=HBL.out;omega) (by decide);clear ldY; obtain⟨rfl,_⟩:=h3)
  | (go_at_call 71;(have hz:=H1.out.hB;clear hz);(refine(HXA.out _ _ (by exact H1.out.p) (by exact Nat.le_trans H1.out.hB H1.out.bl.size) (by have:=HL.out;simp[flatS,tx]at this ⊢;omega) (by exact H1.out.bl)).mono ?_);rintro e w2 h2;have H2:=qh (H1.out.st h2);have HD2:Hid (Blk w2 w.heap.size 42 C):=h2.2.2.2.blk HD1.out (by have:=HBL.out;omega) (by decide);clear ldA;have ldY:w2.cell? ⟨w.heap.size,24,none⟩=some (.slice p.y.1 s.body.length p.y.2):=(HD2.out.cell 24).trans HKY.out; obtain⟨rfl,_⟩:=h2)
  | (go_at_call 70;(refine(zad H0.out _ sy [{ data:=#[97,102,116,101,114,32] }] 1 rfl (by decide) (by have:=HL.out;simp[flatS,tx]at this ⊢;omega)).mono ?_);rintro e w1 h1;have H1:=qh ((H0.out.al _).st h1);have HD1:Hid (Blk w1 w.heap.size 42 C):=h1.2.2.2.blk (HD0.out.alloc _) (by have:=HBL.out;omega) (by decide);have ldA:(ldAt 39 (.pointer (some ⟨w.heap.size,4,none⟩))).run Tryz.prog w1=.ok (.agg CA.toArray) w1:=run_loadAt_mid w1 w.heap.size 4 39 CA _ (HD1.out.mid 4 _ HKA.out) Tryz.underlying39 rfl (by rw[HLA.out];exact hdEx); obtain⟨rfl,_⟩:=h1))
 go_end0
 have h6:=H4.out.fin;rw[show l++flatS [{ data:=#[97,102,116,101,114,32] }]++prE s.ea++prBody d (prSs s.body (d+1))++flatS [{ data:=#[10] }]=l++([97,102,116,101,114,32]++prE s.ea++prBody d (prSs s.body (d+1))++[10]) by simp[flatS,tx,List.append_assoc]]at h6;exact h6
theorem zkg{F:Nat→Prop}{ts:List Lx.Tok}(s:St)(p:StA)(hk:s.kind=k_repeat)(hy:PbK F s.body)(hdy:d+1+bdL s.body≤12)(hli:LIn F w s p)(hin:StIn F w s p)(h:IsP B b l w)(hB:B≤w.heap.size)(hl:l.length+(prSt s d).length≤1000000000)(hF:∀k,F k→k<B)(hT:Tab B w):Calls Tryz.prog 74 #[.pointer (some ⟨b,0,none⟩),.agg (stC s p).toArray,.int .i64 d] w fun r w'=>PrE B b w (l++prSt s d) r w':=by
 have HD:prSt s d=[114,101,112,101,97,116,32]++tx s.name.name++[32]++prE s.ea++prBody d (prSs s.body (d+1))++[10]:=by
  rw[zcp d (isB_t (by rw[hk];simp)) (fun h=>absurd (hk.symm.trans h) (by decide)),rHd,hk]
  simp[List.append_assoc]
 rw[HD]at hl ⊢;clear HD;obtain⟨XN,hXN⟩:=ex9 (s.name.name);have HXA:Hid (PW B b w 71 [.agg (exC s.ea p.a).toArray] (prE s.ea)):=fun l' W h1 h2 h3 hW=>zch hli.oa p.a B b l' W h1 h2 h3 hF (hli.a.keep (zat hF hW)) (hT.mv hW)
 have HXY:Hid (PW B b w 99 [.slice p.y.1 s.body.length p.y.2,.int .i64 d] (prBody d (prSs s.body (d+1)))):=fun l' W h1 h2 h3 hW=>hy B b d l' W p.y.1 p.y.2 h1 h2 h3 hF (hin.2.1.keep (zat hF hW)) hdy (hT.mv hW)
 obtain⟨C,hC⟩:=ex9 (stC s p);have k0:C[0]? = some (.string s.kind):=by rw[hC];rfl
 have HKN:Hid (C[2]? = some (.string XN)):=by show _=_;rw[hC,hXN];rfl
 obtain⟨CA,hCA⟩:=ex9 (exC s.ea p.a);have HKA:Hid (∀j v,CA[j]? = some v→C[4+j]? = some v):=by show ∀j v,_;rw[hC,hCA];exact stC_a s p
 have HLA:Hid (CA.length=5):=by show _=_;rw[hCA];rfl
 rw[←hCA]at HXA;clear hCA;have HKY:Hid (C[24]? = some (.slice p.y.1 s.body.length p.y.2)):=by show _=_;rw[hC];rfl
 have HCL:Hid (C.length=26):=by show _=_;rw[hC];rfl
 rw[hk]at k0;rw[←hXN]at hl ⊢;rw[←hC];have HBL:=qh h.lt;have H0:=qh ((PrS.start h hB).al (.cells C.toArray 42));have HD0:Hid (Blk (w.alloc (.cells C.toArray 42)) w.heap.size 42 C):=Blk.new _ _ _;have HL:=qh hl;have c0:(w.alloc (.cells C.toArray 42)).cell? ⟨w.heap.size,0,none⟩=some (.string k_repeat):=(HD0.out.cell 0).trans k0;clear k0 hC hl h hin hli hT hk hXN hy;have ldN:(w.alloc (.cells C.toArray 42)).cell? ⟨w.heap.size,2,none⟩=some (.string XN):=(HD0.out.cell 2).trans HKN.out
 go_enter Tryz.func74, Tryz.ntmps74
 go_wp2_with (first
  | (go_at_call 70;(refine(zad H3.out _ sy [{ data:=#[10] }] 1 rfl (by decide) (by have:=HL.out;simp[flatS,tx]at this ⊢;omega)).mono ?_);rintro e w4 h4;have H4:=qh ((H3.out.al _).st h4);have HD4:Hid (Blk w4 w.heap.size 42 C):=h4.2.2.2.blk (HD3.out.alloc _) (by have:=HBL.out;omega) (by decide); obtain⟨rfl,_⟩:=h4)
  | (go_at_call 99;(have hz:=H2.out.hB;clear hz);(refine(HXY.out _ _ (by exact H2.out.p) (by exact Nat.le_trans H2.out.hB H2.out.bl.size) (by have:=HL.out;simp[flatS,tx]at this ⊢;omega) (by exact H2.out.bl)).mono ?_);rintro e w3 h3;have H3:=qh (H2.out.st h3);have HD3:Hid (Blk w3 w.heap.size 42 C):=h3.2.2.2.blk HD2.out (by have:=HBL.out;omega) (by decide);clear ldY; obtain⟨rfl,_⟩:=h3)
  | (go_at_call 71;(have hz:=H1.out.hB;clear hz);(refine(HXA.out _ _ (by exact H1.out.p) (by exact Nat.le_trans H1.out.hB H1.out.bl.size) (by have:=HL.out;simp[flatS,tx]at this ⊢;omega) (by exact H1.out.bl)).mono ?_);rintro e w2 h2;have H2:=qh (H1.out.st h2);have HD2:Hid (Blk w2 w.heap.size 42 C):=h2.2.2.2.blk HD1.out (by have:=HBL.out;omega) (by decide);clear ldA;have ldY:w2.cell? ⟨w.heap.size,24,none⟩=some (.slice p.y.1 s.body.length p.y.2):=(HD2.out.cell 24).trans HKY.out; obtain⟨rfl,_⟩:=h2)
  | (go_at_call 70;(refine(zad H0.out _ sy [{ data:=#[114,101,112,101,97,116,32] },XN,{ data:=#[32] }] 3 rfl (by decide) (by have:=HL.out;simp[flatS,tx]at this ⊢;omega)).mono ?_);rintro e w1 h1;have H1:=qh ((H0.out.al _).st h1);have HD1:Hid (Blk w1 w.heap.size 42 C):=h1.2.2.2.blk (HD0.out.alloc _) (by have:=HBL.out;omega) (by decide);have ldA:(ldAt 39 (.pointer (some ⟨w.heap.size,4,none⟩))).run Tryz.prog w1=.ok (.agg CA.toArray) w1:=run_loadAt_mid w1 w.heap.size 4 39 CA _ (HD1.out.mid 4 _ HKA.out) Tryz.underlying39 rfl (by rw[HLA.out];exact hdEx); obtain⟨rfl,_⟩:=h1))
 go_end0
 have h6:=H4.out.fin;rw[show l++flatS [{ data:=#[114,101,112,101,97,116,32] },XN,{ data:=#[32] }]++prE s.ea++prBody d (prSs s.body (d+1))++flatS [{ data:=#[10] }]=l++([114,101,112,101,97,116,32]++tx XN++[32]++prE s.ea++prBody d (prSs s.body (d+1))++[10]) by simp[flatS,tx,List.append_assoc]]at h6;exact h6
theorem ps_if0{F:Nat→Prop}{ts:List Lx.Tok}(s:St)(p:StA)(hk:s.kind=k_if)(he:s.els=[])(hy:PbK F s.body)(hdy:d+1+bdL s.body≤12)(hli:LIn F w s p)(hin:StIn F w s p)(h:IsP B b l w)(hB:B≤w.heap.size)(hl:l.length+(prSt s d).length≤1000000000)(hF:∀k,F k→k<B)(hT:Tab B w):Calls Tryz.prog 74 #[.pointer (some ⟨b,0,none⟩),.agg (stC s p).toArray,.int .i64 d] w fun r w'=>PrE B b w (l++prSt s d) r w':=by
 have HD:prSt s d=[105,102,32,97,99,107,101,100,32]++tx s.tag.name++prBody d (prSs s.body (d+1))++[10]:=by
  rw[zcp d (isB_t (by rw[hk];simp)) (fun _=>he),rHd,hk]
  simp[List.append_assoc]
 rw[HD]at hl ⊢;clear HD;obtain⟨XG,hXG⟩:=ex9 (s.tag.name);have HXY:Hid (PW B b w 99 [.slice p.y.1 s.body.length p.y.2,.int .i64 d] (prBody d (prSs s.body (d+1)))):=fun l' W h1 h2 h3 hW=>hy B b d l' W p.y.1 p.y.2 h1 h2 h3 hF (hin.2.1.keep (zat hF hW)) hdy (hT.mv hW)
 obtain⟨C,hC⟩:=ex9 (stC s p);have k0:C[0]? = some (.string s.kind):=by rw[hC];rfl
 have HKG:Hid (C[22]? = some (.string XG)):=by show _=_;rw[hC,hXG];rfl
 have HKY:Hid (C[24]? = some (.slice p.y.1 s.body.length p.y.2)):=by show _=_;rw[hC];rfl
 have HKZ:Hid (C[25]? = some (.slice p.z.1 s.els.length p.z.2)):=by show _=_;rw[hC];rfl
 have HCL:Hid (C.length=26):=by show _=_;rw[hC];rfl
 rw[hk]at k0;rw[←hXG]at hl ⊢;rw[←hC];have HBL:=qh h.lt;have H0:=qh ((PrS.start h hB).al (.cells C.toArray 42));have HD0:Hid (Blk (w.alloc (.cells C.toArray 42)) w.heap.size 42 C):=Blk.new _ _ _;have HL:=qh hl;have c0:(w.alloc (.cells C.toArray 42)).cell? ⟨w.heap.size,0,none⟩=some (.string k_if):=(HD0.out.cell 0).trans k0;have hmz:s.els.length=0:=by rw[he];rfl
 clear k0 hC hl h hin hli hT hk hXG he hy;generalize s.els.length=mz at *;subst hmz;have ldG:(w.alloc (.cells C.toArray 42)).cell? ⟨w.heap.size,22,none⟩=some (.string XG):=(HD0.out.cell 22).trans HKG.out
 go_enter Tryz.func74, Tryz.ntmps74
 go_wp2_with (first
  | (go_at_call 70;(refine(zad H2.out _ sy [{ data:=#[10] }] 1 rfl (by decide) (by have:=HL.out;simp[flatS,tx]at this ⊢;omega)).mono ?_);rintro e w3 h3;have H3:=qh ((H2.out.al _).st h3);have HD3:Hid (Blk w3 w.heap.size 42 C):=h3.2.2.2.blk (HD2.out.alloc _) (by have:=HBL.out;omega) (by decide); obtain⟨rfl,_⟩:=h3)
  | (go_at_call 99;(have hz:=H1.out.hB;clear hz);(refine(HXY.out _ _ (by exact H1.out.p) (by exact Nat.le_trans H1.out.hB H1.out.bl.size) (by have:=HL.out;simp[flatS,tx]at this ⊢;omega) (by exact H1.out.bl)).mono ?_);rintro e w2 h2;have H2:=qh (H1.out.st h2);have HD2:Hid (Blk w2 w.heap.size 42 C):=h2.2.2.2.blk HD1.out (by have:=HBL.out;omega) (by decide);clear ldY;have ldZ:w2.cell? ⟨w.heap.size,25,none⟩=some (.slice p.z.1 0 p.z.2):=(HD2.out.cell 25).trans HKZ.out; obtain⟨rfl,_⟩:=h2)
  | (go_at_call 70;(refine(zad H0.out _ sy [{ data:=#[105,102,32,97,99,107,101,100,32] },XG] 2 rfl (by decide) (by have:=HL.out;simp[flatS,tx]at this ⊢;omega)).mono ?_);rintro e w1 h1;have H1:=qh ((H0.out.al _).st h1);have HD1:Hid (Blk w1 w.heap.size 42 C):=h1.2.2.2.blk (HD0.out.alloc _) (by have:=HBL.out;omega) (by decide);have ldY:w1.cell? ⟨w.heap.size,24,none⟩=some (.slice p.y.1 s.body.length p.y.2):=(HD1.out.cell 24).trans HKY.out; obtain⟨rfl,_⟩:=h1))
 go_end0
 have h6:=H3.out.fin;rw[show l++flatS [{ data:=#[105,102,32,97,99,107,101,100,32] },XG]++prBody d (prSs s.body (d+1))++flatS [{ data:=#[10] }]=l++([105,102,32,97,99,107,101,100,32]++tx XG++prBody d (prSs s.body (d+1))++[10]) by simp[flatS,tx,List.append_assoc]]at h6;exact h6
theorem ps_if1{F:Nat→Prop}{ts:List Lx.Tok}(s:St)(p:StA)(hk:s.kind=k_if)(he:s.els≠[])(hy:PbK F s.body)(hdy:d+1+bdL s.body≤12)(hz:PbK F s.els)(hdz:d+1+bdL s.els≤12)(hli:LIn F w s p)(hin:StIn F w s p)(h:IsP B b l w)(hB:B≤w.heap.size)(hl:l.length+(prSt s d).length≤1000000000)(hF:∀k,F k→k<B)(hT:Tab B w):Calls Tryz.prog 74 #[.pointer (some ⟨b,0,none⟩),.agg (stC s p).toArray,.int .i64 d] w fun r w'=>PrE B b w (l++prSt s d) r w':=by
 have HD:prSt s d=[105,102,32,97,99,107,101,100,32]++tx s.tag.name++prBody d (prSs s.body (d+1))++[32,101,108,115,101]++prBody d (prSs s.els (d+1))++[10]:=by
  rw[zgg d hk he,rHd,hk]
  simp[List.append_assoc]
 rw[HD]at hl ⊢;clear HD;obtain⟨XG,hXG⟩:=ex9 (s.tag.name);have HXY:Hid (PW B b w 99 [.slice p.y.1 s.body.length p.y.2,.int .i64 d] (prBody d (prSs s.body (d+1)))):=fun l' W h1 h2 h3 hW=>hy B b d l' W p.y.1 p.y.2 h1 h2 h3 hF (hin.2.1.keep (zat hF hW)) hdy (hT.mv hW)
 have HXZ:Hid (PW B b w 99 [.slice p.z.1 s.els.length p.z.2,.int .i64 d] (prBody d (prSs s.els (d+1)))):=fun l' W h1 h2 h3 hW=>hz B b d l' W p.z.1 p.z.2 h1 h2 h3 hF (hin.2.2.keep (zat hF hW)) hdz (hT.mv hW)
 obtain⟨C,hC⟩:=ex9 (stC s p);have k0:C[0]? = some (.string s.kind):=by rw[hC];rfl
 have HKG:Hid (C[22]? = some (.string XG)):=by show _=_;rw[hC,hXG];rfl
 have HKY:Hid (C[24]? = some (.slice p.y.1 s.body.length p.y.2)):=by show _=_;rw[hC];rfl
 have HKZ:Hid (C[25]? = some (.slice p.z.1 s.els.length p.z.2)):=by show _=_;rw[hC];rfl
 have HCL:Hid (C.length=26):=by show _=_;rw[hC];rfl
 rw[hk]at k0;rw[←hXG]at hl ⊢;rw[←hC];have HBL:=qh h.lt;have H0:=qh ((PrS.start h hB).al (.cells C.toArray 42));have HD0:Hid (Blk (w.alloc (.cells C.toArray 42)) w.heap.size 42 C):=Blk.new _ _ _;have HL:=qh hl;have c0:(w.alloc (.cells C.toArray 42)).cell? ⟨w.heap.size,0,none⟩=some (.string k_if):=(HD0.out.cell 0).trans k0;have hmz:(0:Int)<(s.els.length:Int):=by have:=List.length_pos_iff.2 he;omega
 clear k0 hC hl h hin hli hT hk hXG he hy hz;generalize s.els.length=mz at *;have ldG:(w.alloc (.cells C.toArray 42)).cell? ⟨w.heap.size,22,none⟩=some (.string XG):=(HD0.out.cell 22).trans HKG.out
 go_enter Tryz.func74, Tryz.ntmps74
 go_wp2_with (first
  | (go_at_call 70;(refine(zad H4.out _ sy [{ data:=#[10] }] 1 rfl (by decide) (by have:=HL.out;simp[flatS,tx]at this ⊢;omega)).mono ?_);rintro e w5 h5;have H5:=qh ((H4.out.al _).st h5);have HD5:Hid (Blk w5 w.heap.size 42 C):=h5.2.2.2.blk (HD4.out.alloc _) (by have:=HBL.out;omega) (by decide); obtain⟨rfl,_⟩:=h5)
  | (go_at_call 99;(have hz:=H3.out.hB;clear hz);(refine(HXZ.out _ _ (by exact H3.out.p) (by exact Nat.le_trans H3.out.hB H3.out.bl.size) (by have:=HL.out;simp[flatS,tx]at this ⊢;omega) (by exact H3.out.bl)).mono ?_);rintro e w4 h4;have H4:=qh (H3.out.st h4);have HD4:Hid (Blk w4 w.heap.size 42 C):=h4.2.2.2.blk HD3.out (by have:=HBL.out;omega) (by decide);clear ldZ; obtain⟨rfl,_⟩:=h4)
  | (go_at_call 70;(refine(zad H2.out _ sy [{ data:=#[32,101,108,115,101] }] 1 rfl (by decide) (by have:=HL.out;simp[flatS,tx]at this ⊢;omega)).mono ?_);rintro e w3 h3;have H3:=qh ((H2.out.al _).st h3);have HD3:Hid (Blk w3 w.heap.size 42 C):=h3.2.2.2.blk (HD2.out.alloc _) (by have:=HBL.out;omega) (by decide);have ldZ:w3.cell? ⟨w.heap.size,25,none⟩=some (.slice p.z.1 mz p.z.2):=(HD3.out.cell 25).trans HKZ.out; obtain⟨rfl,_⟩:=h3)
  | (go_at_call 99;(have hz:=H1.out.hB;clear hz);(refine(HXY.out _ _ (by exact H1.out.p) (by exact Nat.le_trans H1.out.hB H1.out.bl.size) (by have:=HL.out;simp[flatS,tx]at this ⊢;omega) (by exact H1.out.bl)).mono ?_);rintro e w2 h2;have H2:=qh (H1.out.st h2);have HD2:Hid (Blk w2 w.heap.size 42 C):=h2.2.2.2.blk HD1.out (by have:=HBL.out;omega) (by decide);clear ldY;have ldZ:w2.cell? ⟨w.heap.size,25,none⟩=some (.slice p.z.1 mz p.z.2):=(HD2.out.cell 25).trans HKZ.out; obtain⟨rfl,_⟩:=h2)
  | (go_at_call 70;(refine(zad H0.out _ sy [{ data:=#[105,102,32,97,99,107,101,100,32] },XG] 2 rfl (by decide) (by have:=HL.out;simp[flatS,tx]at this ⊢;omega)).mono ?_);rintro e w1 h1;have H1:=qh ((H0.out.al _).st h1);have HD1:Hid (Blk w1 w.heap.size 42 C):=h1.2.2.2.blk (HD0.out.alloc _) (by have:=HBL.out;omega) (by decide);have ldY:w1.cell? ⟨w.heap.size,24,none⟩=some (.slice p.y.1 s.body.length p.y.2):=(HD1.out.cell 24).trans HKY.out; obtain⟨rfl,_⟩:=h1))
 go_end0
 have h6:=H5.out.fin;rw[show l++flatS [{ data:=#[105,102,32,97,99,107,101,100,32] },XG]++prBody d (prSs s.body (d+1))++flatS [{ data:=#[32,101,108,115,101] }]++prBody d (prSs s.els (d+1))++flatS [{ data:=#[10] }]=l++([105,102,32,97,99,107,101,100,32]++tx XG++prBody d (prSs s.body (d+1))++[32,101,108,115,101]++prBody d (prSs s.els (d+1))++[10]) by simp[flatS,tx,List.append_assoc]]at h6;exact h6
theorem zdd{F:Nat→Prop}{ts:List Lx.Tok}(s:St)(p:StA)(hs:WfS ts s)(hb:isB s=false)(hli:LIn F w s p)(hin:StIn F w s p)(h:IsP B b l w)(hB:B≤w.heap.size)(hl:l.length+(prSt s d).length≤1000000000)(hF:∀k,F k→k<B)(hT:Tab B w):Calls Tryz.prog 74 #[.pointer (some ⟨b,0,none⟩),.agg (stC s p).toArray,.int .i64 d] w fun r w'=>PrE B b w (l++prSt s d) r w':=by
 have HD:prSt s d=rHd s++[59]++[10]:=by
  rw[zgf d hb]
  simp
 rw[HD]at hl ⊢;clear HD;obtain⟨K,hK⟩:=ex9 (s.kind);have hb2:=hb;simp only[isB,←hK,Bool.or_eq_false_iff,decide_eq_false_iff_not]at hb2;have s1:(K.toList == [97,102,116,101,114])=false:=strl hb2.1.1;have s2:(K.toList == [114,101,112,101,97,116])=false:=strl hb2.1.2;have s3:(K.toList == [105,102])=false:=strl hb2.2;have HXL:Hid (PW B b w 100 [.agg (stC s p).toArray] (rHd s)):=fun l' W h1 h2 h3 hW=>pl_all s p hs hb (hli.keep (zat hF hW)) h1 h2 h3 hF (hT.mv hW)
 obtain⟨C,hC⟩:=ex9 (stC s p);have k0:C[0]? = some (.string s.kind):=by rw[hC];rfl
 have HCL:Hid (C.length=26):=by show _=_;rw[hC];rfl
 rw[←hC]at HXL;rw[←hK]at k0;rw[←hC];have HBL:=qh h.lt;have H0:=qh ((PrS.start h hB).al (.cells C.toArray 42));have HD0:Hid (Blk (w.alloc (.cells C.toArray 42)) w.heap.size 42 C):=Blk.new _ _ _;have HL:=qh hl;have c0:(w.alloc (.cells C.toArray 42)).cell? ⟨w.heap.size,0,none⟩=some (.string K):=(HD0.out.cell 0).trans k0;clear k0 hC hl h hin hli hT hb hb2 hs hK;have ldL:(ldAt 42 (.pointer (some ⟨w.heap.size,0,none⟩))).run Tryz.prog (w.alloc (.cells C.toArray 42))=.ok (.agg C.toArray) (w.alloc (.cells C.toArray 42)):=zbg HD0.out 42 0 C sy _ Tryz.underlying42 rfl (by rw[HCL.out];exact hdSt)
 go_enter Tryz.func74, Tryz.ntmps74
 go_wp2_with (first
  | (go_at_call 70;(refine(zad H2.out _ sy [{ data:=#[10] }] 1 rfl (by decide) (by have:=HL.out;simp[flatS,tx]at this ⊢;omega)).mono ?_);rintro e w3 h3;have H3:=qh ((H2.out.al _).st h3);have HD3:Hid (Blk w3 w.heap.size 42 C):=h3.2.2.2.blk (HD2.out.alloc _) (by have:=HBL.out;omega) (by decide); obtain⟨rfl,_⟩:=h3)
  | (go_at_call 70;(refine(zad H1.out _ sy [{ data:=#[59] }] 1 rfl (by decide) (by have:=HL.out;simp[flatS,tx]at this ⊢;omega)).mono ?_);rintro e w2 h2;have H2:=qh ((H1.out.al _).st h2);have HD2:Hid (Blk w2 w.heap.size 42 C):=h2.2.2.2.blk (HD1.out.alloc _) (by have:=HBL.out;omega) (by decide); obtain⟨rfl,_⟩:=h2)
  | (go_at_call 100;(have hz:=H0.out.hB;clear hz);(refine(HXL.out _ _ (by exact H0.out.p) (by exact Nat.le_trans H0.out.hB H0.out.bl.size) (by have:=HL.out;simp[flatS,tx]at this ⊢;omega) (by exact H0.out.bl)).mono ?_);rintro e w1 h1;have H1:=qh (H0.out.st h1);have HD1:Hid (Blk w1 w.heap.size 42 C):=h1.2.2.2.blk HD0.out (by have:=HBL.out;omega) (by decide);clear ldL; obtain⟨rfl,_⟩:=h1))
 go_end0
 have h6:=H3.out.fin;rw[show l++rHd s++flatS [{ data:=#[59] }]++flatS [{ data:=#[10] }]=l++(rHd s++[59]++[10]) by simp[flatS,tx,List.append_assoc]]at h6;exact h6
theorem ps_all{F:Nat→Prop}{ts:List Lx.Tok}(hT:TkOk ts){s:St}(h:WfS ts s):PsK F s:=by
 induction h with
 | after at_ a y h1 hl hy ih =>
  intro B b d l w p hp hB hlen hF hin hd hTab;exact zm0 (ts:=ts) _ p rfl (zct y ih om) (by rw[bd,if_pos (.inl rfl)]at hd;simp only[St.body];omega) (LIn.of hT (.after at_ a y h1 hl hy) hin) hin hp hB hlen hF hTab
 | repeat_ at_ n a y h1 h2 hl hy ih =>
  intro B b d l w p hp hB hlen hF hin hd hTab;exact zkg (ts:=ts) _ p rfl (zct y ih om) (by rw[bd,if_pos (.inr (.inl rfl))]at hd;simp only[St.body];omega) (LIn.of hT (.repeat_ at_ n a y h1 h2 hl hy) hin) hin hp hB hlen hF hTab
 | if_ at_ t y z h1 hl hm hy hz ihy ihz =>
  intro B b d l w p hp hB hlen hF hin hd hTab;have hd2:d+1+bdL y≤12∧d+1+bdL z≤12:=by rw[bd,if_pos (.inr (.inr rfl))]at hd;omega
  by_cases he:z=[]
  · exact ps_if0 (ts:=ts) _ p rfl he (zct y ihy om) hd2.1 (LIn.of hT (.if_ at_ t y z h1 hl hm hy hz) hin) hin hp hB hlen hF hTab
  · exact ps_if1 (ts:=ts) _ p rfl he (zct y ihy om) hd2.1 (zct z ihz om) hd2.2 (LIn.of hT (.if_ at_ t y z h1 hl hm hy hz) hin) hin hp hB hlen hF hTab
 | send at_ a1 r1 b1 t1 h1 h2 h3 h4 =>
  intro B b d l w p hp hB hlen hF hin hd hTab;exact zdd (ts:=ts) _ p (.send at_ a1 r1 b1 t1 h1 h2 h3 h4) (isB_k (by decide)) (LIn.of hT (.send at_ a1 r1 b1 t1 h1 h2 h3 h4) hin) hin hp hB hlen hF hTab
 | split at_ a1 rs t1 h1 h0 hl h2 h4 =>
  intro B b d l w p hp hB hlen hF hin hd hTab;exact zdd (ts:=ts) _ p (.split at_ a1 rs t1 h1 h0 hl h2 h4) (isB_k (by decide)) (LIn.of hT (.split at_ a1 rs t1 h1 h0 hl h2 h4) hin) hin hp hB hlen hF hTab
 | cover at_ r1 h2 =>
  intro B b d l w p hp hB hlen hF hin hd hTab;exact zdd (ts:=ts) _ p (.cover at_ r1 h2) (isB_k (by decide)) (LIn.of hT (.cover at_ r1 h2) hin) hin hp hB hlen hF hTab
 | wait at_ a1 h1 =>
  intro B b d l w p hp hB hlen hF hin hd hTab;exact zdd (ts:=ts) _ p (.wait at_ a1 h1) (isB_k (by decide)) (LIn.of hT (.wait at_ a1 h1) hin) hin hp hB hlen hF hTab
 | block at_ n1 r1 h1 h2 =>
  intro B b d l w p hp hB hlen hF hin hd hTab;exact zdd (ts:=ts) _ p (.block at_ n1 r1 h1 h2) (isB_k (by decide)) (LIn.of hT (.block at_ n1 r1 h1 h2) hin) hin hp hB hlen hF hTab
 | retry at_ a1 b1 c1 r1 t1 h1 h2 h3 h4 h5 =>
  intro B b d l w p hp hB hlen hF hin hd hTab;exact zdd (ts:=ts) _ p (.retry at_ a1 b1 c1 r1 t1 h1 h2 h3 h4 h5) (isB_k (by decide)) (LIn.of hT (.retry at_ a1 b1 c1 r1 t1 h1 h2 h3 h4 h5) hin) hin hp hB hlen hF hTab
 | every at_ a1 b1 r1 h1 h2 h4 =>
  intro B b d l w p hp hB hlen hF hin hd hTab;exact zdd (ts:=ts) _ p (.every at_ a1 b1 r1 h1 h2 h4) (isB_k (by decide)) (LIn.of hT (.every at_ a1 b1 r1 h1 h2 h4) hin) hin hp hB hlen hF hTab
end
end
end Go.Proofs.YtafjkbbiaopemaaGreatDoor.Tr
