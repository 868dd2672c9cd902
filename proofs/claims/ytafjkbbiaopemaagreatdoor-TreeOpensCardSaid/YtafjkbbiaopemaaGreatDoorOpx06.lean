/- Part of the proof. -/
import Derived.Test.YtafjkbbiaopemaaGreatDoorOpx05
set_option linter.all false
set_option maxRecDepth 100000
set_option maxHeartbeats 0
namespace Go.Proofs.YtafjkbbiaopemaaGreatDoor.Tr
open Go.RowKit
section
@[reducible] def zs:ByteArray:={ data:=#[] }
@[reducible] def k_let:ByteArray:={ data:=#[108,101,116] }
@[reducible] def k_route:ByteArray:={ data:=#[114,111,117,116,101] }
@[reducible] def k_send:ByteArray:={ data:=#[115,101,110,100] }
@[reducible] def k_split:ByteArray:={ data:=#[115,112,108,105,116] }
@[reducible] def k_cover:ByteArray:={ data:=#[99,111,118,101,114] }
@[reducible] def k_wait:ByteArray:={ data:=#[119,97,105,116] }
@[reducible] def k_block:ByteArray:={ data:=#[98,108,111,99,107] }
@[reducible] def k_after:ByteArray:={ data:=#[97,102,116,101,114] }
@[reducible] def k_repeat:ByteArray:={ data:=#[114,101,112,101,97,116] }
@[reducible] def k_retry:ByteArray:={ data:=#[114,101,116,114,121] }
@[reducible] def k_every:ByteArray:={ data:=#[101,118,101,114,121] }
@[reducible] def k_if:ByteArray:={ data:=#[105,102] }
@[reducible] def k_acked:ByteArray:={ data:=#[97,99,107,101,100] }
@[reducible] def k_else:ByteArray:={ data:=#[101,108,115,101] }
@[reducible] def k_via:ByteArray:={ data:=#[118,105,97] }
@[reducible] def k_with:ByteArray:={ data:=#[119,105,116,104] }
@[reducible] def k_as:ByteArray:={ data:=#[97,115] }
@[reducible] def k_times:ByteArray:={ data:=#[116,105,109,101,115] }
@[reducible] def k_join:ByteArray:={ data:=#[106,111,105,110] }
@[reducible] def k_number:ByteArray:={ data:=#[110,117,109,98,101,114] }
@[reducible] def k_name:ByteArray:={ data:=#[110,97,109,101] }
@[reducible] def k_text:ByteArray:={ data:=#[116,101,120,116] }
@[reducible] def m_eq:ByteArray:={ data:=#[61] }
@[reducible] def m_gt:ByteArray:={ data:=#[62] }
@[reducible] def m_at:ByteArray:={ data:=#[64] }
@[reducible] def m_ex:ByteArray:={ data:=#[33] }
@[reducible] def m_semi:ByteArray:={ data:=#[59] }
@[reducible] def m_lbr:ByteArray:={ data:=#[123] }
@[reducible] def m_rbr:ByteArray:={ data:=#[125] }
@[reducible] def m_lpar:ByteArray:={ data:=#[40] }
@[reducible] def m_rpar:ByteArray:={ data:=#[41] }
@[reducible] def m_plus:ByteArray:={ data:=#[43] }
@[reducible] def m_minus:ByteArray:={ data:=#[45] }
@[reducible] def m_star:ByteArray:={ data:=#[42] }
@[reducible] def m_comma:ByteArray:={ data:=#[44] }
structure Rf where
 name:ByteArray
 at_:Int
inductive Ex where
 | mk (op:ByteArray) (num:Int) (text:ByteArray) (at_:Int) (args:List Ex)
structure Pl where
 node:Rf
 delay:Ex
 flags:Ex
structure Dc where
 kind:ByteArray
 name:Rf
 value:Ex
 places:List Pl
inductive St where
 | mk (kind:ByteArray) (at_:Int) (name:Rf) (a b c:Ex) (routes:List Rf) (block tag:Rf) (body els:List St)
structure Sr where
 decls:List Dc
 body:List St
def Ex.at_:Ex→Int
 | .mk _ _ _ a _=>a
def zR:Rf:=⟨zs,0⟩
def zE:Ex:=.mk zs 0 zs 0 []
def zT:St:=.mk zs 0 zR zE zE zE [] zR zR [] []
structure PS where
 i:Nat
 fe:Int
 fa:Int
 bo:Int
 pa:Int
def PS.ok(s:PS):Bool:=s.fe == 0
section
variable(ts:List Lx.Tok)
def pk(s:PS):Lx.Tok:=tokAt ts s.i
def sees(l:List ByteArray)(s:PS):Bool:=s.ok && isOf (pk ts s) l
def kindIs(k:Nat)(s:PS):Bool:=s.ok && decide ((pk ts s).kind=k)
def failP(e:Int)(s:PS):PS:=if s.ok then { s with fe:=e,fa:=((pk ts s).at_:Int) } else s
def nxt(s:PS):PS:={ s with i:=s.i+1 }
def takeP(T:ByteArray)(s:PS):PS:=if s.ok then (if isOf (pk ts s) [T] then nxt s else { s with fe:=9,fa:=((pk ts s).at_:Int) }) else s
def refP(s:PS):Rf × PS:=if kindIs ts 1 s then (⟨bytesOf (pk ts s).text,((pk ts s).at_:Int)⟩,nxt s) else (zR,failP ts 9 s)
def openP(s:PS):PS :=
 let s1:=if sees ts [m_lpar] s && s.pa == 12 then failP ts 11 s else s
 let s2:=takeP ts m_lpar s1
 { s2 with pa:=s2.pa+1 }
def shutP(s:PS):PS :=
 let s2:=takeP ts m_rpar s
 { s2 with pa:=s2.pa-1 }
section
variable(ex:PS→Ex × PS)
def atomP(s:PS):Ex × PS :=
 if kindIs ts 3 s then (.mk k_number ((pk ts s).num:Int) zs ((pk ts s).at_:Int) [],nxt s)
 else if kindIs ts 1 s then (.mk k_name 0 (bytesOf (pk ts s).text) ((pk ts s).at_:Int) [],nxt s)
 else if sees ts [m_lpar] s then ((ex (openP ts s)).1,shutP ts (ex (openP ts s)).2)
 else (zE,failP ts 9 s)
def joinLoop:Nat→List Ex→PS→List Ex × PS
 | 0,l,s=>(l,s)
 | k+1,l,s=>if sees ts [m_comma] s then joinLoop k (l++[(ex (nxt s)).1]) (ex (nxt s)).2 else (l,s)
def factorP(s:PS):Ex × PS :=
 if kindIs ts 4 s then (.mk k_text 0 (bytesOf (pk ts s).text) ((pk ts s).at_:Int) [],nxt s)
 else if sees ts [k_join] s then
  let r:=ex (openP ts (nxt s))
  let q:=joinLoop ts ex (ts.length+1) [r.1] r.2
  (.mk k_join 0 zs ((pk ts s).at_:Int) q.1,shutP ts q.2)
 else atomP ts ex s
def termLoop:Nat→Ex→PS→Ex × PS
 | 0,e,s=>(e,s)
 | k+1,e,s=>if sees ts [m_star] s then termLoop k (.mk m_star 0 zs e.at_ [e,(factorP ts ex (nxt s)).1]) (factorP ts ex (nxt s)).2 else (e,s)
def termP(s:PS):Ex × PS:=termLoop ts ex (ts.length+1) (factorP ts ex s).1 (factorP ts ex s).2
def exprLoop:Nat→Ex→PS→Ex × PS
 | 0,e,s=>(e,s)
 | k+1,e,s=>if sees ts [m_plus,m_minus] s then exprLoop k (.mk (bytesOf (pk ts s).text) 0 zs e.at_ [e,(termP ts ex (nxt s)).1]) (termP ts ex (nxt s)).2 else (e,s)
def exprG(s:PS):Ex × PS:=exprLoop ts ex (ts.length+1) (termP ts ex s).1 (termP ts ex s).2
end
def exprP:Nat→PS→Ex × PS
 | 0,s=>(zE,s)
 | d+1,s=>exprG ts (exprP d) s
def placeP(s:PS):Pl × PS :=
 let r:=refP ts s
 let d:=if sees ts [m_at] r.2 then atomP ts (exprP ts 14) (nxt r.2) else (zE,r.2)
 let f:=if sees ts [m_ex] d.2 then atomP ts (exprP ts 14) (nxt d.2) else (zE,d.2)
 (⟨r.1,d.1,f.1⟩,f.2)
def placeLoop:Nat→List Pl→PS→List Pl × PS
 | 0,l,s=>(l,s)
 | k+1,l,s=>if sees ts [m_gt] s then placeLoop k (l++[(placeP ts (nxt s)).1]) (placeP ts (nxt s)).2 else (l,s)
def declP(s:PS):Dc × PS :=
 let kind:=bytesOf (pk ts s).text
 let r:=refP ts (nxt s)
 let s2:=takeP ts m_eq r.2
 if kind=k_let then
  let v:=exprP ts 14 s2
  (⟨kind,r.1,v.1,[]⟩,takeP ts m_semi v.2)
 else
  let p:=placeP ts s2
  let q:=placeLoop ts (ts.length+1) [p.1] p.2
  (⟨kind,r.1,zE,q.1⟩,takeP ts m_semi q.2)
def refLoop:Nat→List Rf→PS→List Rf × PS
 | 0,l,s=>(l,s)
 | k+1,l,s=>if sees ts [m_comma] s then refLoop k (l++[(refP ts (nxt s)).1]) (refP ts (nxt s)).2 else (l,s)
def viaP(many:Bool)(s:PS):List Rf × PS :=
 let r:=refP ts (takeP ts k_via s)
 if many then refLoop ts (ts.length+1) [r.1] r.2 else ([r.1],r.2)
def tagP(s:PS):Rf × PS:=if sees ts [k_as] s then refP ts (nxt s) else (zR,s)
def withP(s:PS):Rf × PS:=if sees ts [k_with] s then refP ts (nxt s) else (zR,s)
abbrev EX:=exprP ts 14
def lineP(kind:ByteArray)(at_:Int)(s:PS):St × PS :=
 if kind=k_send then
  let a:=EX ts s;let r:=viaP ts false a.2;let b:=withP ts r.2;let t:=tagP ts b.2
  (.mk kind at_ zR a.1 zE zE r.1 b.1 t.1 [] [],t.2)
 else if kind=k_split then
  let a:=EX ts s;let r:=viaP ts true a.2;let t:=tagP ts r.2
  (.mk kind at_ zR a.1 zE zE r.1 zR t.1 [] [],t.2)
 else if kind=k_cover then
  let r:=refP ts s
  (.mk kind at_ zR zE zE zE [r.1] zR zR [] [],r.2)
 else if kind=k_wait then
  let a:=EX ts s
  (.mk kind at_ zR a.1 zE zE [] zR zR [] [],a.2)
 else if kind=k_block then
  let n:=refP ts s;let r:=viaP ts false n.2
  (.mk kind at_ n.1 zE zE zE r.1 zR zR [] [],r.2)
 else if kind=k_retry then
  let a:=EX ts s;let b:=EX ts (takeP ts k_every a.2);let c:=EX ts (takeP ts k_send b.2);let r:=viaP ts false c.2;let t:=tagP ts r.2
  (.mk kind at_ zR a.1 b.1 c.1 r.1 zR t.1 [] [],t.2)
 else if kind=k_every then
  let a:=EX ts s;let b:=EX ts (takeP ts k_times a.2);let r:=refP ts (takeP ts k_cover b.2)
  (.mk kind at_ zR a.1 b.1 zE [r.1] zR zR [] [],r.2)
 else (.mk kind at_ zR zE zE zE [] zR zR [] [],s)
def ten:List ByteArray:=[k_send,k_split,k_cover,k_wait,k_block,k_after,k_repeat,k_retry,k_every,k_if]
section
variable(st:PS→St × PS)
def bodyLoop:Nat→List St→PS→List St × PS
 | 0,l,s=>(l,s)
 | k+1,l,s=>if s.ok && !sees ts [m_rbr] s then bodyLoop k (l++[(st s).1]) (st s).2 else (l,s)
def bodyP(s:PS):List St × PS :=
 let s1:=if sees ts [m_lbr] s && s.bo == 12 then failP ts 11 s else s
 let s2:=takeP ts m_lbr s1
 let r:=bodyLoop ts st (ts.length+2) [] { s2 with bo:=s2.bo+1 }
 let s3:=takeP ts m_rbr r.2
 (r.1,{ s3 with bo:=s3.bo-1 })
def stmtG(s:PS):St × PS :=
 if sees ts ten s then
  let kind:=bytesOf (pk ts s).text
  let at_:Int:=((pk ts s).at_:Int)
  if kind=k_after then
   let a:=EX ts (nxt s);let b:=bodyP ts st a.2
   (.mk kind at_ zR a.1 zE zE [] zR zR b.1 [],b.2)
  else if kind=k_repeat then
   let n:=refP ts (nxt s);let a:=EX ts n.2;let b:=bodyP ts st a.2
   (.mk kind at_ n.1 a.1 zE zE [] zR zR b.1 [],b.2)
  else if kind=k_if then
   let t:=refP ts (takeP ts k_acked (nxt s));let b:=bodyP ts st t.2
   let e:=if sees ts [k_else] b.2 then bodyP ts st (nxt b.2) else ([],b.2)
   (.mk kind at_ zR zE zE zE [] zR t.1 b.1 e.1,e.2)
  else
   let r:=lineP ts kind at_ (nxt s)
   (r.1,takeP ts m_semi r.2)
 else (zT,failP ts 9 s)
end
def stmtP:Nat→PS→St × PS
 | 0,s=>(zT,failP ts 9 s)
 | d+1,s=>stmtG ts (stmtP d) s
def declLoop:Nat→List Dc→PS→List Dc × PS
 | 0,l,s=>(l,s)
 | k+1,l,s=>if sees ts [k_let,k_route] s then declLoop k (l++[(declP ts s).1]) (declP ts s).2 else (l,s)
def topLoop:Nat→List St→PS→List St × PS
 | 0,l,s=>(l,s)
 | k+1,l,s=>if s.ok && !kindIs ts 6 s then topLoop k (l++[(stmtP ts 14 s).1]) (stmtP ts 14 s).2 else (l,s)
def s0:PS:=⟨0,0,0,0,0⟩
def parseT:Sr × (Int × Int) :=
 let d:=declLoop ts (ts.length+1) [] s0
 let b:=topLoop ts (ts.length+2) [] d.2
 if b.2.ok then (⟨d.1,b.1⟩,(0,0)) else (⟨[],[]⟩,(b.2.fe,b.2.fa))
end
def parse(l:List UInt8):Sr × (Int × Int) :=
 let r:=Lx.scan l
 if r.1.1=0 then parseT r.2 else (⟨[],[]⟩,((r.1.1:Int),(r.1.2:Int)))
structure RS where
 i:Nat
 bo:Int
 pa:Int
 bad:Bool
 fe:Int
 fa:Int
section
variable(ts:List Lx.Tok)
def rk(s:RS):Lx.Tok:=tokAt ts s.i
def rnx(s:RS):RS:={ s with i:=s.i+1 }
def rstop(e:Int)(s:RS):RS:=if s.bad then s else { s with bad:=true,fe:=e,fa:=((rk ts s).at_:Int) }
def rIs(T:ByteArray)(s:RS):Bool:=!s.bad && isOf (rk ts s) [T]
def rKind(k:Nat)(s:RS):Bool:=!s.bad && decide ((rk ts s).kind=k)
def rneed(T:ByteArray)(s:RS):RS:=if rIs ts T s then rnx s else rstop ts 9 s
def rname(s:RS):Rf × RS:=if rKind ts 1 s then (⟨bytesOf (rk ts s).text,((rk ts s).at_:Int)⟩,rnx s) else (zR,rstop ts 9 s)
def rparen(s:RS):RS :=
 let s1:=if rIs ts m_lpar s && s.pa == 12 then rstop ts 11 s else s
 let s2:=rneed ts m_lpar s1
 { s2 with pa:=s2.pa+1 }
def rshut(s:RS):RS :=
 let s2:=rneed ts m_rpar s
 { s2 with pa:=s2.pa-1 }
section
variable(ex:RS→Ex × RS)
def ratom(s:RS):Ex × RS :=
 if s.bad then (zE,s)
 else if (rk ts s).kind=3 then (.mk k_number ((rk ts s).num:Int) zs ((rk ts s).at_:Int) [],rnx s)
 else if (rk ts s).kind=1 then (.mk k_name 0 (bytesOf (rk ts s).text) ((rk ts s).at_:Int) [],rnx s)
 else if (rparen ts s).bad then (zE,rparen ts s)
 else ((ex (rparen ts s)).1,rshut ts (ex (rparen ts s)).2)
def rjoinLoop:Nat→List Ex→RS→List Ex × RS
 | 0,l,s=>(l,s)
 | k+1,l,s=>if s.bad then (l,s) else if rIs ts m_comma (ex s).2 then rjoinLoop k (l++[(ex s).1]) (rnx (ex s).2) else (l++[(ex s).1],(ex s).2)
def rfactor(s:RS):Ex × RS :=
 if rKind ts 4 s then (.mk k_text 0 (bytesOf (rk ts s).text) ((rk ts s).at_:Int) [],rnx s)
 else if rIs ts k_join s then
  let q:=rjoinLoop ts ex (ts.length+2) [] (rparen ts (rnx s))
  (.mk k_join 0 zs ((rk ts s).at_:Int) q.1,rshut ts q.2)
 else ratom ts ex s
def rtermLoop:Nat→Ex→RS→Ex × RS
 | 0,e,s=>(e,s)
 | k+1,e,s=>if rIs ts m_star s then rtermLoop k (.mk m_star 0 zs e.at_ [e,(rfactor ts ex (rnx s)).1]) (rfactor ts ex (rnx s)).2 else (e,s)
def rterm(s:RS):Ex × RS:=rtermLoop ts ex (ts.length+1) (rfactor ts ex s).1 (rfactor ts ex s).2
def rexprLoop:Nat→Ex→RS→Ex × RS
 | 0,e,s=>(e,s)
 | k+1,e,s=>if rIs ts m_plus s || rIs ts m_minus s then rexprLoop k (.mk (bytesOf (rk ts s).text) 0 zs e.at_ [e,(rterm ts ex (rnx s)).1]) (rterm ts ex (rnx s)).2 else (e,s)
def rexprG(s:RS):Ex × RS:=rexprLoop ts ex (ts.length+1) (rterm ts ex s).1 (rterm ts ex s).2
end
def rexpr:Nat→RS→Ex × RS
 | 0,s=>(zE,s)
 | d+1,s=>rexprG ts (rexpr d) s
def rplace(s:RS):Pl × RS :=
 let r:=rname ts s
 let d:=if rIs ts m_at r.2 then ratom ts (rexpr ts 14) (rnx r.2) else (zE,r.2)
 let f:=if rIs ts m_ex d.2 then ratom ts (rexpr ts 14) (rnx d.2) else (zE,d.2)
 (⟨r.1,d.1,f.1⟩,f.2)
def rplaceLoop:Nat→List Pl→RS→List Pl × RS
 | 0,l,s=>(l,s)
 | k+1,l,s=>if s.bad then (l,s) else if rIs ts m_gt (rplace ts s).2 then rplaceLoop k (l++[(rplace ts s).1]) (rnx (rplace ts s).2) else (l++[(rplace ts s).1],(rplace ts s).2)
def rdecl(kind:ByteArray)(s:RS):Dc × RS :=
 let r:=rname ts s
 let s2:=rneed ts m_eq r.2
 if kind=k_let then
  let v:=rexpr ts 14 s2
  (⟨kind,r.1,v.1,[]⟩,rneed ts m_semi v.2)
 else
  let q:=rplaceLoop ts (ts.length+2) [] s2
  (⟨kind,r.1,zE,q.1⟩,rneed ts m_semi q.2)
def rrefLoop:Nat→List Rf→RS→List Rf × RS
 | 0,l,s=>(l,s)
 | k+1,l,s=>if rIs ts m_comma s then rrefLoop k (l++[(rname ts (rnx s)).1]) (rname ts (rnx s)).2 else (l,s)
def rroutes(many:Bool)(s:RS):List Rf × RS :=
 let r:=rname ts s
 if many then rrefLoop ts (ts.length+1) [r.1] r.2 else ([r.1],r.2)
def rwith(T:ByteArray)(s:RS):Rf × RS:=if rIs ts T s then rname ts (rnx s) else (zR,s)
abbrev REX:=rexpr ts 14
def rbegins(s:RS):Bool:=!s.bad && isOf (rk ts s) ten
section
variable(st:RS→St × RS)
def rstmtsLoop:Nat→List St→RS→List St × RS
 | 0,l,s=>(l,s)
 | k+1,l,s=>if rbegins ts s then rstmtsLoop k (l++[(st s).1]) (st s).2 else (l,s)
def rstmts(s:RS):List St × RS:=rstmtsLoop ts st (ts.length+1) [] s
def rbody(s:RS):List St × RS :=
 let s1:=if rIs ts m_lbr s && s.bo == 12 then rstop ts 11 s else s
 let s2:=rneed ts m_lbr s1
 let r:=rstmts ts st { s2 with bo:=s2.bo+1 }
 let s3:=rneed ts m_rbr r.2
 (r.1,{ s3 with bo:=s3.bo-1 })
def rstmtG(s:RS):St × RS :=
 let kind:=bytesOf (rk ts s).text
 let at_:Int:=((rk ts s).at_:Int)
 let s1:=rnx s
 if kind=k_send then
  let a:=REX ts s1;let r:=rroutes ts false (rneed ts k_via a.2);let b:=rwith ts k_with r.2;let t:=rwith ts k_as b.2
  (.mk kind at_ zR a.1 zE zE r.1 b.1 t.1 [] [],rneed ts m_semi t.2)
 else if kind=k_split then
  let a:=REX ts s1;let r:=rroutes ts true (rneed ts k_via a.2);let t:=rwith ts k_as r.2
  (.mk kind at_ zR a.1 zE zE r.1 zR t.1 [] [],rneed ts m_semi t.2)
 else if kind=k_retry then
  let a:=REX ts s1;let b:=REX ts (rneed ts k_every a.2);let c:=REX ts (rneed ts k_send b.2);let r:=rroutes ts false (rneed ts k_via c.2);let t:=rwith ts k_as r.2
  (.mk kind at_ zR a.1 b.1 c.1 r.1 zR t.1 [] [],rneed ts m_semi t.2)
 else if kind=k_cover then
  let r:=rroutes ts false s1
  (.mk kind at_ zR zE zE zE r.1 zR zR [] [],rneed ts m_semi r.2)
 else if kind=k_wait then
  let a:=REX ts s1
  (.mk kind at_ zR a.1 zE zE [] zR zR [] [],rneed ts m_semi a.2)
 else if kind=k_block then
  let n:=rname ts s1;let r:=rroutes ts false (rneed ts k_via n.2)
  (.mk kind at_ n.1 zE zE zE r.1 zR zR [] [],rneed ts m_semi r.2)
 else if kind=k_every then
  let a:=REX ts s1;let b:=REX ts (rneed ts k_times a.2);let r:=rroutes ts false (rneed ts k_cover b.2)
  (.mk kind at_ zR a.1 b.1 zE r.1 zR zR [] [],rneed ts m_semi r.2)
 else if kind=k_after then
  let a:=REX ts s1;let b:=rbody ts st a.2
  (.mk kind at_ zR a.1 zE zE [] zR zR b.1 [],b.2)
 else if kind=k_repeat then
  let n:=rname ts s1;let a:=REX ts n.2;let b:=rbody ts st a.2
  (.mk kind at_ n.1 a.1 zE zE [] zR zR b.1 [],b.2)
 else if kind=k_if then
  let t:=rname ts (rneed ts k_acked s1);let b:=rbody ts st t.2
  let e:=if rIs ts k_else b.2 then rbody ts st (rnx b.2) else ([],b.2)
  (.mk kind at_ zR zE zE zE [] zR t.1 b.1 e.1,e.2)
 else (.mk kind at_ zR zE zE zE [] zR zR [] [],rneed ts m_semi s1)
end
def rstmt:Nat→RS→St × RS
 | 0,s=>(zT,rstop ts 9 s)
 | d+1,s=>rstmtG ts (rstmt d) s
def rdeclLoop:Nat→List Dc→RS→List Dc × RS
 | 0,l,s=>(l,s)
 | k+1,l,s=>if rIs ts k_let s || rIs ts k_route s then rdeclLoop k (l++[(rdecl ts (bytesOf (rk ts s).text) (rnx s)).1]) (rdecl ts (bytesOf (rk ts s).text) (rnx s)).2 else (l,s)
def r0:RS:=⟨0,0,0,false,0,0⟩
def rparseT:Sr × (Int × Int) :=
 let d:=rdeclLoop ts (ts.length+1) [] r0
 let b:=rstmts ts (rstmt ts 14) d.2
 let s:=if (rk ts b.2).kind≠6 then rstop ts 9 b.2 else b.2
 if s.bad then (⟨[],[]⟩,(s.fe,s.fa)) else (⟨d.1,b.1⟩,(0,0))
end
section
variable{ts:List Lx.Tok}
structure Pg(ts:List Lx.Tok)(p q:PS):Prop where
 le:p.i≤q.i
 lt:p.i<ts.length→q.i<ts.length
 pa:q.pa=p.pa
 bo:q.bo=p.bo
 bad:p.ok=false→q.fe=p.fe∧q.fa=p.fa∧q.i=p.i
 flt:p.i<ts.length→(q.fe=p.fe∧q.fa=p.fa)∨((q.fe=9∨q.fe=11)∧∃j,j<ts.length∧q.fa=((tokAt ts j).at_:Int))
theorem Pg.refl(p:PS):Pg ts p p:=⟨lr,id,rfl,rfl,fun _=>⟨rfl,rfl,rfl⟩,fun _=>.inl ⟨rfl,rfl⟩⟩
theorem Pg.notok{p q:PS}(h:Pg ts p q)(hp:p.ok=false):q.ok=false:=by
 have h5:=(h.bad hp).1
 unfold PS.ok at hp ⊢
 rw[h5];exact hp
theorem Pg.okof{p q:PS}(h:Pg ts p q)(hq:q.ok=true):p.ok=true:=by
 cases hp:p.ok with
 | true=>rfl
 | false=>rw[h.notok hp]at hq;exact hq
theorem zd8{a b c a' b' c':Int}(h:(b=a∧b'=a')∨((b=9∨b=11)∧∃j,j<ts.length∧b'=((tokAt ts j).at_:Int)))(k:(c=b∧c'=b')∨((c=9∨c=11)∧∃j,j<ts.length∧c'=((tokAt ts j).at_:Int))):(c=a∧c'=a')∨((c=9∨c=11)∧∃j,j<ts.length∧c'=((tokAt ts j).at_:Int)):=by
 rcases k with ⟨rfl,rfl⟩|k
 · exact h
 · exact .inr k
theorem Pg.trans{p q r:PS}(h:Pg ts p q)(k:Pg ts q r):Pg ts p r :=
 ⟨Nat.le_trans h.le k.le,fun hp=>k.lt (h.lt hp),k.pa.trans h.pa,k.bo.trans h.bo,fun hp=>⟨(k.bad (h.notok hp)).1.trans (h.bad hp).1,(k.bad (h.notok hp)).2.1.trans (h.bad hp).2.1,(k.bad (h.notok hp)).2.2.trans (h.bad hp).2.2⟩,fun hp=>zd8 (h.flt hp) (k.flt (h.lt hp))⟩
def Ends(ts:List Lx.Tok):Prop:=∀i,(tokAt ts i).kind≠6→i+1<ts.length
variable(HT:Ends ts)
include HT
theorem zi7{s:PS}{l:List ByteArray}(h:isOf (pk ts s) l=true):s.i+1<ts.length:=HT s.i (fun e=>by unfold isOf pk at h;rw[e]at h;simp at h)
theorem zan{s:PS}{l:List ByteArray}(h:sees ts l s=true):s.i+1<ts.length:=by
 unfold sees at h;simp at h;exact zi7 HT h.2
theorem zgs{s:PS}{k:Nat}(h:kindIs ts k s=true)(hk:k≠6):s.i+1<ts.length:=by
 unfold kindIs at h;simp at h;exact HT s.i (by have:=h.2;unfold pk at this;omega)
omit HT in
theorem zaj{s:PS}{l:List ByteArray}(h:sees ts l s=true):s.ok=true:=by unfold sees at h;simp at h;exact h.1
omit HT in
theorem zgr{s:PS}{k:Nat}(h:kindIs ts k s=true):s.ok=true:=by unfold kindIs at h;simp at h;exact h.1
omit HT in
theorem nxt_g{s:PS}(h:s.i+1<ts.length)(hk:s.ok=true):Pg ts s (nxt s):=⟨Nat.le_succ _,fun _=>h,rfl,rfl,fun h2=>(by rw[hk]at h2;cases h2),fun _=>.inl ⟨rfl,rfl⟩⟩
omit HT in
theorem zea{e:Int}(s:PS)(he:e=9∨e=11):Pg ts s (failP ts e s):=by
 unfold failP
 split
 · rename_i h;exact⟨lr,id,rfl,rfl,fun h2=>(by rw[h]at h2;cases h2),fun hl=>.inr ⟨he,s.i,hl,rfl⟩⟩
 · exact Pg.refl _
theorem zas(T:ByteArray)(s:PS):Pg ts s (takeP ts T s):=by
 unfold takeP
 split
 · rename_i h
   split
   · rename_i h2;exact nxt_g (zi7 HT h2) h
   · exact⟨lr,id,rfl,rfl,fun h2=>(by rw[h]at h2;cases h2),fun hl=>.inr ⟨.inl rfl,s.i,hl,rfl⟩⟩
 · exact Pg.refl _
theorem ref_g(s:PS):Pg ts s (refP ts s).2:=by
 unfold refP
 split
 · rename_i h;exact nxt_g (zgs HT h (by decide)) (zgr h)
 · exact zea s (.inl rfl)
theorem zh0(s:PS):(openP ts s).pa=s.pa+1∧Pg ts s { openP ts s with pa:=s.pa }:=by
 unfold openP
 have h1:Pg ts s (if sees ts [m_lpar] s && s.pa == 12 then failP ts 11 s else s):=by split;exact zea s (.inr rfl);exact Pg.refl _
 have h2:=h1.trans (zas HT m_lpar _);exact⟨by simp only[h2.pa],⟨h2.le,h2.lt,rfl,h2.bo,h2.bad,h2.flt⟩⟩
theorem zqs(s:PS):(shutP ts s).pa=s.pa-1∧Pg ts s { shutP ts s with pa:=s.pa }:=by
 unfold shutP
 have h2:=zas HT m_rpar s;exact⟨by simp only[h2.pa],⟨h2.le,h2.lt,rfl,h2.bo,h2.bad,h2.flt⟩⟩
theorem zno{p q:PS}(h:Pg ts (openP ts p) q):Pg ts p (shutP ts q):=by
 obtain⟨h1,h2⟩:=zh0 HT p;obtain⟨h3,h4⟩:=zqs HT q;refine⟨Nat.le_trans h2.le (Nat.le_trans h.le h4.le),fun hp=>h4.lt (h.lt (h2.lt hp)),by rw[h3,h.pa,h1];omega,h4.bo.trans (h.bo.trans h2.bo),fun hp=>?_,fun hp=>zd8 (zd8 (h2.flt hp) (h.flt (h2.lt hp))) (h4.flt (h.lt (h2.lt hp)))⟩;have h5:(openP ts p).ok=false:=h2.notok hp;have h6:=h.notok h5;exact⟨(h4.bad h6).1.trans ((h.bad h5).1.trans (h2.bad hp).1),(h4.bad h6).2.1.trans ((h.bad h5).2.1.trans (h2.bad hp).2.1),(h4.bad h6).2.2.trans ((h.bad h5).2.2.trans (h2.bad hp).2.2)⟩
section
variable{ex:PS→Ex × PS}(HX:∀s,Pg ts s (ex s).2)
include HX
theorem zif(s:PS):Pg ts s (atomP ts ex s).2:=by
 unfold atomP
 split
 · rename_i h;exact nxt_g (zgs HT h (by decide)) (zgr h)
 split
 · rename_i h;exact nxt_g (zgs HT h (by decide)) (zgr h)
 split
 · exact zno HT (HX _)
 · exact zea s (.inl rfl)
theorem zcz:∀(k:Nat) (l:List Ex) (s:PS),Pg ts s (joinLoop ts ex k l s).2
 | 0,_,s=>Pg.refl s
 | k+1,l,s=>by
  unfold joinLoop
  split
  · rename_i h;exact((nxt_g (zan HT h) (zaj h)).trans (HX _)).trans (zcz k _ _)
  · exact Pg.refl _
theorem zeb(s:PS):Pg ts s (factorP ts ex s).2:=by
 unfold factorP
 split
 · rename_i h;exact nxt_g (zgs HT h (by decide)) (zgr h)
 split
 · rename_i h;exact(nxt_g (zan HT h) (zaj h)).trans (zno HT ((HX _).trans (zcz HT HX _ _ _)))
 · exact zif HT HX s
theorem zfy:∀(k:Nat) (e:Ex) (s:PS),Pg ts s (termLoop ts ex k e s).2
 | 0,_,s=>Pg.refl s
 | k+1,l,s=>by
  unfold termLoop
  split
  · rename_i h;exact((nxt_g (zan HT h) (zaj h)).trans (zeb HT HX _)).trans (zfy k _ _)
  · exact Pg.refl _
theorem zg2(s:PS):Pg ts s (termP ts ex s).2:=(zeb HT HX s).trans (zfy HT HX _ _ _)
theorem zf7:∀(k:Nat) (e:Ex) (s:PS),Pg ts s (exprLoop ts ex k e s).2
 | 0,_,s=>Pg.refl s
 | k+1,l,s=>by
  unfold exprLoop
  split
  · rename_i h;exact((nxt_g (zan HT h) (zaj h)).trans (zg2 HT HX _)).trans (zf7 k _ _)
  · exact Pg.refl _
theorem zss(s:PS):Pg ts s (exprG ts ex s).2:=(zg2 HT HX s).trans (zf7 HT HX _ _ _)
end
theorem za1:∀(d:Nat) (s:PS),Pg ts s (exprP ts d s).2
 | 0,s=>Pg.refl s
 | d+1,s=>zss HT (za1 d) s
theorem zb9(s:PS):Pg ts s (placeP ts s).2:=by
 unfold placeP
 have A:∀(c:ByteArray) (s:PS),Pg ts s (if sees ts [c] s then atomP ts (exprP ts 14) (nxt s) else (zE,s)).2:=fun c s=>by
  split
  · rename_i h;exact(nxt_g (zan HT h) (zaj h)).trans (zif HT (za1 HT 14) _)
  · exact Pg.refl _
 exact((ref_g HT s).trans (A m_at _)).trans (A m_ex _)
theorem zbs:∀(k:Nat) (l:List Pl) (s:PS),Pg ts s (placeLoop ts k l s).2
 | 0,_,s=>Pg.refl s
 | k+1,l,s=>by
  unfold placeLoop
  split
  · rename_i h;exact((nxt_g (zan HT h) (zaj h)).trans (zb9 HT _)).trans (zbs k _ _)
  · exact Pg.refl _
theorem zob(s:PS)(h:s.i+1<ts.length)(h2:s.ok=true):Pg ts s (declP ts s).2:=by
 unfold declP
 have h0:=((nxt_g h h2).trans (ref_g HT _)).trans (zas HT m_eq _);dsimp only
 split
 · exact(h0.trans (za1 HT 14 _)).trans (zas HT _ _)
 · exact((h0.trans (zb9 HT _)).trans (zbs HT _ _ _)).trans (zas HT _ _)
theorem zd4:∀(k:Nat) (l:List Rf) (s:PS),Pg ts s (refLoop ts k l s).2
 | 0,_,s=>Pg.refl s
 | k+1,l,s=>by
  unfold refLoop
  split
  · rename_i h;exact((nxt_g (zan HT h) (zaj h)).trans (ref_g HT _)).trans (zd4 k _ _)
  · exact Pg.refl _
theorem via_g(m:Bool)(s:PS):Pg ts s (viaP ts m s).2:=by
 unfold viaP
 have h0:=(zas HT k_via s).trans (ref_g HT _);dsimp only
 split
 · exact h0.trans (zd4 HT _ _ _)
 · exact h0
theorem tag_g(s:PS):Pg ts s (tagP ts s).2:=by
 unfold tagP
 split
 · rename_i h;exact(nxt_g (zan HT h) (zaj h)).trans (ref_g HT _)
 · exact Pg.refl _
theorem zl0(s:PS):Pg ts s (withP ts s).2:=by
 unfold withP
 split
 · rename_i h;exact(nxt_g (zan HT h) (zaj h)).trans (ref_g HT _)
 · exact Pg.refl _
theorem znx(k:ByteArray)(a:Int)(s:PS):Pg ts s (lineP ts k a s).2:=by
 unfold lineP
 have E:=za1 HT 14;have T:=zas HT;have V:=via_g HT;have G:=tag_g HT;dsimp only
 split
 · exact((((E s).trans (V _ _)).trans (zl0 HT _)).trans (G _))
 split
 · exact((E s).trans (V _ _)).trans (G _)
 split
 · exact ref_g HT s
 split
 · exact E s
 split
 · exact(ref_g HT s).trans (V _ _)
 split
 · exact((((((E s).trans (T _ _)).trans (E _)).trans (T _ _)).trans (E _)).trans (V _ _)).trans (G _)
 split
 · exact((((E s).trans (T _ _)).trans (E _)).trans (T _ _)).trans (ref_g HT _)
 · exact Pg.refl _
section
variable{st:PS→St × PS}(HX:∀s,Pg ts s (st s).2)
include HX
omit HT in
theorem zdn:∀(k:Nat) (l:List St) (s:PS),Pg ts s (bodyLoop ts st k l s).2
 | 0,_,s=>Pg.refl s
 | k+1,l,s=>by
  unfold bodyLoop
  split
  · exact(HX _).trans (zdn k _ _)
  · exact Pg.refl _
theorem zf8(s:PS):Pg ts s (bodyP ts st s).2:=by
 unfold bodyP
 have h1:Pg ts s (if sees ts [m_lbr] s && s.bo == 12 then failP ts 11 s else s):=by split;exact zea s (.inr rfl);exact Pg.refl _
 dsimp only;generalize (if sees ts [m_lbr] s && s.bo == 12 then failP ts 11 s else s)=s1 at h1 ⊢;have h2:=h1.trans (zas HT m_lbr _);generalize takeP ts m_lbr s1=s2 at h2 ⊢;have h3:=zdn HX (ts.length+2) [] { s2 with bo:=s2.bo+1 };generalize (bodyLoop ts st (ts.length+2) [] { s2 with bo:=s2.bo+1 }).2=s3 at h3 ⊢;have h4:=zas HT m_rbr s3;generalize takeP ts m_rbr s3=s4 at h4 ⊢;have h5:=h3.trans h4
 exact⟨Nat.le_trans h2.le h5.le,fun h=>h5.lt (h2.lt h),h5.pa.trans h2.pa,by have:=h5.bo;simp only at this ⊢;rw[this,h2.bo];omega,fun h=>by
  have h6:=h2.bad h;have h7:=h5.bad (h2.notok h)
  exact⟨h7.1.trans h6.1,h7.2.1.trans h6.2.1,h7.2.2.trans h6.2.2⟩,fun hp=>zd8 (h2.flt hp) (h5.flt (h2.lt hp))⟩
theorem zrf(s:PS):Pg ts s (stmtG ts st s).2:=by
 unfold stmtG
 split
 · rename_i h
   have h0:=nxt_g (zan HT h) (zaj h);have E:=za1 HT 14;have B:=zf8 HT HX;dsimp only
   split
   · exact(h0.trans (E _)).trans (B _)
   split
   · exact((h0.trans (ref_g HT _)).trans (E _)).trans (B _)
   split
   · refine(((h0.trans (zas HT k_acked _)).trans (ref_g HT _)).trans (B _)).trans ?_
     split
     · rename_i h2;exact(nxt_g (zan HT h2) (zaj h2)).trans (B _)
     · exact Pg.refl _
   · exact(h0.trans (znx HT _ _ _)).trans (zas HT _ _)
 · exact zea s (.inl rfl)
end
theorem zdo:∀(d:Nat) (s:PS),Pg ts s (stmtP ts d s).2
 | 0,s=>zea s (.inl rfl)
 | d+1,s=>zrf HT (zdo d) s
theorem zdm:∀(k:Nat) (l:List Dc) (s:PS),Pg ts s (declLoop ts k l s).2
 | 0,_,s=>Pg.refl s
 | k+1,l,s=>by
  unfold declLoop
  split
  · rename_i h;exact(zob HT s (zan HT h) (zaj h)).trans (zdm k _ _)
  · exact Pg.refl _
theorem zda:∀(k:Nat) (l:List St) (s:PS),Pg ts s (topLoop ts k l s).2
 | 0,_,s=>Pg.refl s
 | k+1,l,s=>by
  unfold topLoop
  split
  · exact(zdo HT 14 _).trans (zda k _ _)
  · exact Pg.refl _
end
structure Rel(p:PS)(r:RS):Prop where
 i:p.i=r.i
 ok:p.ok = !r.bad
 f:r.bad=true→p.fe=r.fe∧p.fa=r.fa
 n:r.bad=false→p.bo=r.bo∧p.pa=r.pa
def Sim{α:Type}(p:α × PS)(r:α × RS):Prop:=Rel p.2 r.2∧(p.2.ok=true→p.1=r.1)
section
variable{ts:List Lx.Tok}
theorem Rel.pk{p:PS}{r:RS}(h:Rel p r):pk ts p=rk ts r:=by unfold Tr.pk rk;rw[h.i]
theorem Rel.is{p:PS}{r:RS}(h:Rel p r)(T:ByteArray):sees ts [T] p=rIs ts T r:=by unfold sees rIs;rw[h.ok,h.pk]
theorem Rel.ten{p:PS}{r:RS}(h:Rel p r):sees ts ten p=rbegins ts r:=by unfold sees rbegins;rw[h.ok,h.pk]
theorem Rel.kind{p:PS}{r:RS}(h:Rel p r)(k:Nat):kindIs ts k p=rKind ts k r:=by unfold kindIs rKind;rw[h.ok,h.pk]
theorem Rel.nxt{p:PS}{r:RS}(h:Rel p r):Rel (nxt p) (rnx r):=⟨by show p.i+1=r.i+1;rw[h.i],h.ok,h.f,h.n⟩
theorem Rel.fail{p:PS}{r:RS}(h:Rel p r)(e:Int)(he:e≠0):Rel (failP ts e p) (rstop ts e r):=by
 unfold failP rstop
 cases hb:r.bad with
 | true=>rw[if_neg (by rw[h.ok,hb];simp),if_pos rfl];exact h
 | false =>
  rw[if_pos (by rw[h.ok,hb];rfl),if_neg sy];exact⟨h.i,by show(e == 0) = !true;simpa using he,fun _=>⟨rfl,by rw[h.pk]⟩,fun h2=>(by cases h2)⟩
theorem Rel.take{p:PS}{r:RS}(h:Rel p r)(T:ByteArray):Rel (takeP ts T p) (rneed ts T r):=by
 unfold takeP rneed
 have hi:=h.is (ts:=ts) T
 unfold sees at hi
 cases hok:p.ok with
 | false =>
  rw[←hi,hok];have h5:=h.fail (ts:=ts) 9 (by decide)
  unfold failP at h5
  rw[hok]at h5
  simpa using h5
 | true =>
  rw[←hi,hok]
  cases hq:isOf (Tr.pk ts p) [T]with
  | true=>simpa using h.nxt
  | false =>
   have h5:=h.fail (ts:=ts) 9 (by decide)
   unfold failP at h5
   rw[hok]at h5
   simpa using h5
theorem Rel.ref{p:PS}{r:RS}(h:Rel p r):Sim (refP ts p) (rname ts r):=by
 unfold refP rname
 rw[h.kind,h.pk]
 cases rKind ts 1 r
 · exact⟨h.fail 9 (by decide),fun _=>rfl⟩
 · exact⟨h.nxt,fun _=>rfl⟩
theorem Rel.set{p:PS}{r:RS}(h:Rel p r){x x' y y':Int}(h1:x=x')(h2:y=y'):Rel { p with bo:=x,pa:=y } { r with bo:=x',pa:=y' }:=⟨h.i,h.ok,h.f,fun _=>⟨h1,h2⟩⟩
theorem Rel.upPa{p:PS}{r:RS}(h:Rel p r)(d:Int):Rel { p with pa:=p.pa+d } { r with pa:=r.pa+d }:=⟨h.i,h.ok,h.f,fun hb=>⟨(h.n hb).1,by show _+d=_+d;rw[(h.n hb).2]⟩⟩
theorem Rel.upBo{p:PS}{r:RS}(h:Rel p r)(d:Int):Rel { p with bo:=p.bo+d } { r with bo:=r.bo+d }:=⟨h.i,h.ok,h.f,fun hb=>⟨by show _+d=_+d;rw[(h.n hb).1],(h.n hb).2⟩⟩
theorem Rel.bound{p:PS}{r:RS}(h:Rel p r)(T:ByteArray)(x y:Int)(hxy:r.bad=false→x=y):Rel (if sees ts [T] p && x == 12 then failP ts 11 p else p) (if rIs ts T r && y == 12 then rstop ts 11 r else r):=by
 rw[h.is]
 cases hi:rIs ts T r with
 | false=>simpa using h
 | true =>
  have hb:r.bad=false:=by unfold rIs at hi;simp at hi;exact hi.1
  rw[hxy hb]
  cases y == 12
  · simpa using h
  · simpa using h.fail 11 (by decide)
theorem Rel.open_{p:PS}{r:RS}(h:Rel p r):Rel (openP ts p) (rparen ts r):=((h.bound m_lpar p.pa r.pa fun hb=>(h.n hb).2).take m_lpar).upPa 1
theorem Rel.shut{p:PS}{r:RS}(h:Rel p r):Rel (shutP ts p) (rshut ts r):=(h.take m_rpar).upPa (-1)
theorem Rel.bad{p:PS}{r:RS}(h:Rel p r)(hp:p.ok=false):r.bad=true:=by have:=h.ok;rw[hp]at this;simpa using this.symm
theorem Rel.good{p:PS}{r:RS}(h:Rel p r)(hp:p.ok=true):r.bad=false:=by have:=h.ok;rw[hp]at this;simpa using this.symm
theorem Rel.stay{p q:PS}{r:RS}(h:Rel p r)(hg:Pg ts p q)(hp:p.ok=false):Rel q r :=
 ⟨(hg.bad hp).2.2.trans h.i,by rw[hg.notok hp,h.bad hp];rfl,fun hb=>⟨(hg.bad hp).1.trans (h.f hb).1,(hg.bad hp).2.1.trans (h.f hb).2⟩,fun hb=>by rw[h.bad hp]at hb;cases hb⟩
end
section
variable{ts:List Lx.Tok}(HT:Ends ts)
theorem Sim.stay{α:Type}{p q:PS}{r:RS}{x y:α}(h:Rel p r)(hg:Pg ts p q)(hp:p.ok=false):Sim (x,q) (y,r):=⟨h.stay hg hp,fun h2=>by rw[hg.notok hp]at h2;cases h2⟩
theorem zi3{s:PS}(h:(shutP ts s).ok=true):s.ok=true:=by
 cases hs:s.ok with
 | true=>rfl
 | false=>unfold shutP takeP at h;rw[hs]at h;simp only[Bool.false_eq_true,if_false]at h;unfold PS.ok at h hs;simp only at h;rw[hs]at h;cases h
include HT
section
variable{ex:PS→Ex × PS}{er:RS→Ex × RS}(HG:∀s,Pg ts s (ex s).2)(HS:∀p r,Rel p r→Sim (ex p) (er r))
include HG HS
theorem zq8{p:PS}{r:RS}(h:Rel p r):Sim (atomP ts ex p) (ratom ts er r):=by
 unfold atomP ratom
 cases hb:r.bad with
 | true =>
  have hp:p.ok=false:=by rw[h.ok,hb];rfl
  have e1:∀k,kindIs ts k p=false:=fun k=>by unfold kindIs;rw[hp];rfl
  have e2:∀l,sees ts l p=false:=fun l=>by unfold sees;rw[hp];rfl
  simp only[e1,e2,Bool.false_eq_true,if_false,if_true];exact Sim.stay h (zea (ts:=ts) p (.inl rfl)) hp
 | false =>
  have hp:p.ok=true:=by rw[h.ok,hb];rfl
  have e1:∀k,kindIs ts k p=decide ((rk ts r).kind=k):=fun k=>by unfold kindIs;rw[hp,h.pk];rfl
  simp only[e1,h.pk,Bool.false_eq_true,if_false,decide_eq_true_eq]
  by_cases h3:(rk ts r).kind=3
  · rw[if_pos h3,if_pos h3];exact⟨h.nxt,fun _=>rfl⟩
  by_cases h1:(rk ts r).kind=1
  · rw[if_neg h3,if_neg h3,if_pos h1,if_pos h1];exact⟨h.nxt,fun _=>rfl⟩
  rw[if_neg h3,if_neg h3,if_neg h1,if_neg h1];have ho:=h.open_ (ts:=ts)
  cases hs:sees ts [m_lpar] p with
  | true =>
   rw[if_pos rfl]
   cases hq:(rparen ts r).bad with
   | true =>
    rw[if_pos rfl];have hpo:(openP ts p).ok=false:=by rw[ho.ok,hq];rfl
    obtain⟨_,h9⟩:=zqs HT (ex (openP ts p)).2;have h8:=(HG (openP ts p));have h7:=h8.trans h9;refine⟨⟨?_,?_,?_,?_⟩,?_⟩
    · exact((h7.bad hpo).2.2).trans ho.i
    · show(shutP ts _).ok=_
      rw[hq];exact h7.notok hpo
    · intro _;exact⟨((h7.bad hpo).1).trans (ho.f hq).1,((h7.bad hpo).2.1).trans (ho.f hq).2⟩
    · intro h6;rw[hq]at h6;cases h6
    · intro h6
      have h10:(shutP ts (ex (openP ts p)).2).ok=false:=h7.notok hpo;rw[show(shutP ts (ex (openP ts p)).2).ok=true from h6]at h10
      cases h10
   | false =>
    rw[if_neg sy];have h5:=HS _ _ ho;exact⟨h5.1.shut,fun h6=>h5.2 (zi3 h6)⟩
  | false =>
   rw[if_neg sy];have hs2:rIs ts m_lpar r=false:=by rw[←h.is];exact hs
   have hr:rparen ts r = { rstop ts 9 r with pa:=(rstop ts 9 r).pa+1 }:=by unfold rparen;simp[hs2,rneed]
   have hf:=h.fail (ts:=ts) 9 (by decide);have hbr:(rstop ts 9 r).bad=true:=by unfold rstop;rw[hb];rfl
   rw[hr,if_pos hbr];exact⟨⟨hf.i,hf.ok,hf.f,fun h6=>by rw[hbr]at h6;cases h6⟩,fun _=>rfl⟩
theorem join_s:∀(k:Nat) (l:List Ex) (p:PS) (r:RS),Rel p r→r.bad=false→ts.length<r.i+k+1→Sim (joinLoop ts ex k (l++[(ex p).1]) (ex p).2) (rjoinLoop ts er (k+1) l r):=by
 intro k
 induction k with
 | zero =>
  intro l p r h hb hk
  unfold joinLoop rjoinLoop
  have h5:=HS p r h;have hi:=h5.1.is (ts:=ts) m_comma;rw[if_neg (by rw[hb];simp)]
  have hn:rIs ts m_comma (er r).2=false:=by
   cases hq:rIs ts m_comma (er r).2 with
   | false=>rfl
   | true =>
    rw[hq]at hi;have h6:=zan HT hi;have h7:=(HG p).le;have h8:=h.i;omega
  rw[if_neg (by rw[hn];simp)];exact⟨h5.1,fun h6=>by rw[h5.2 h6]⟩
 | succ k ih =>
  intro l p r h hb hk
  unfold joinLoop rjoinLoop
  have h5:=HS p r h;have hi:=h5.1.is (ts:=ts) m_comma;rw[hi,if_neg (c:=r.bad=true) (by rw[hb];simp)]
  cases hq:rIs ts m_comma (er r).2 with
  | false =>
   rw[if_neg sy,if_neg sy];exact⟨h5.1,fun h6=>by rw[h5.2 h6]⟩
  | true =>
   rw[if_pos rfl,if_pos rfl];have hok:(ex p).2.ok=true:=by rw[hq]at hi;exact zaj hi
   rw[h5.2 hok];refine ih _ _ _ h5.1.nxt ?_ ?_
   · exact h5.1.good hok
   · have h7:=(HG p).le
     have h8:=h.i;have h9:=h5.1.i
     show ts.length<(er r).2.i+1+k+1
     omega
theorem zkm{p:PS}{r:RS}(h:Rel p r):Sim (factorP ts ex p) (rfactor ts er r):=by
 unfold factorP rfactor
 rw[h.kind,h.is,h.pk]
 cases rKind ts 4 r with
 | true=>exact⟨h.nxt,fun _=>rfl⟩
 | false =>
  cases hj:rIs ts k_join r with
  | false =>
   have h5:=zq8 HT HG HS h
   simpa using h5
  | true =>
   simp only[Bool.false_eq_true,if_false,if_true];have hi:=h.is (ts:=ts) k_join;rw[hj]at hi;have h1:=(h.nxt).open_ (ts:=ts);have hlt:=zan HT hi
   cases hq:(rparen ts (rnx r)).bad with
   | true =>
    have hpo:(openP ts (nxt p)).ok=false:=by rw[h1.ok,hq];rfl
    have hr:rjoinLoop ts er (ts.length+2) [] (rparen ts (rnx r))=([],rparen ts (rnx r)):=by unfold rjoinLoop;rw[if_pos hq]
    rw[hr];have h7:=(HG (openP ts (nxt p))).trans (zcz HT HG (ts.length+1) [(ex (openP ts (nxt p))).1] (ex (openP ts (nxt p))).2);have h8:=(h1.stay h7 hpo).shut (ts:=ts);exact⟨h8,fun h9=>by have:=h7.notok hpo;rw[zi3 h9]at this;cases this⟩
   | false =>
    have h5:=join_s HT HG HS (ts.length+1) [] _ _ h1 hq om
    exact⟨h5.1.shut,fun h6=>by
     show Ex.mk _ _ _ _ _=Ex.mk _ _ _ _ _
     rw[←h5.2 (zi3 h6)]
     rfl⟩
theorem zk1:∀(k:Nat) (e e':Ex) (p:PS) (r:RS),Rel p r→(p.ok=true→e=e')→Sim (termLoop ts ex k e p) (rtermLoop ts er k e' r):=by
 intro k
 induction k with
 | zero=>intro e e' p r h he;exact⟨h,he⟩
 | succ k ih =>
  intro e e' p r h he
  unfold termLoop rtermLoop
  rw[h.is]
  cases hq:rIs ts m_star r with
  | false=>exact⟨h,he⟩
  | true =>
   have hi:=h.is (ts:=ts) m_star;rw[hq]at hi;have h5:=zkm HT HG HS (h.nxt);rw[if_pos rfl,if_pos rfl,he (zaj hi)];exact ih _ _ _ _ h5.1 fun h6=>by rw[h5.2 h6]
theorem zqn{p:PS}{r:RS}(h:Rel p r):Sim (termP ts ex p) (rterm ts er r):=by
 have h5:=zkm HT HG HS h;exact zk1 HT HG HS _ _ _ _ _ h5.1 h5.2
omit HT HG HS in
theorem zq2{r:RS}(a b:ByteArray):(!r.bad && isOf (rk ts r) [a,b])=(rIs ts a r || rIs ts b r):=by
 unfold rIs isOf bmem
 cases r.bad
 · simp only[List.map_cons,List.map_nil,List.contains_cons,List.contains_nil,Bool.or_false,Bool.not_false,Bool.true_and]
   rw[Bool.and_or_distrib_left]
 · rfl
theorem zlt:∀(k:Nat) (e e':Ex) (p:PS) (r:RS),Rel p r→(p.ok=true→e=e')→Sim (exprLoop ts ex k e p) (rexprLoop ts er k e' r):=by
 intro k
 induction k with
 | zero=>intro e e' p r h he;exact⟨h,he⟩
 | succ k ih =>
  intro e e' p r h he
  unfold exprLoop rexprLoop
  have hi:sees ts [m_plus,m_minus] p=(rIs ts m_plus r || rIs ts m_minus r):=by rw[←zq2];unfold sees;rw[h.ok,h.pk]
  rw[←hi]
  cases hq:sees ts [m_plus,m_minus] p with
  | false=>exact⟨h,he⟩
  | true =>
   have h5:=zqn HT HG HS (h.nxt);rw[if_pos rfl,if_pos rfl,he (zaj hq),h.pk];exact ih _ _ _ _ h5.1 fun h6=>by rw[h5.2 h6]
theorem zsr{p:PS}{r:RS}(h:Rel p r):Sim (exprG ts ex p) (rexprG ts er r):=by
 have h5:=zqn HT HG HS h;exact zlt HT HG HS _ _ _ _ _ h5.1 h5.2
end
theorem zkn:∀(d:Nat) (p:PS) (r:RS),Rel p r→Sim (exprP ts d p) (rexpr ts d r)
 | 0,_,_,h=>⟨h,fun _=>rfl⟩
 | d+1,_,_,h=>zsr HT (za1 HT d) (zkn d) h
end
section
variable{ts:List Lx.Tok}(HT:Ends ts)
include HT
theorem Rel.opt{p:PS}{r:RS}(h:Rel p r)(T:ByteArray):Sim (if sees ts [T] p then atomP ts (exprP ts 14) (Tr.nxt p) else (zE,p)) (if rIs ts T r then ratom ts (rexpr ts 14) (rnx r) else (zE,r)):=by
 rw[h.is]
 cases rIs ts T r
 · exact⟨h,fun _=>rfl⟩
 · exact zq8 HT (za1 HT 14) (zkn HT 14) h.nxt
theorem opt_g(T:ByteArray)(s:PS):Pg ts s (if sees ts [T] s then atomP ts (exprP ts 14) (nxt s) else (zE,s)).2:=by
 split
 · rename_i h;exact(nxt_g (zan HT h) (zaj h)).trans (zif HT (za1 HT 14) _)
 · exact Pg.refl _
theorem zni{p:PS}{r:RS}(h:Rel p r):Sim (placeP ts p) (rplace ts r):=by
 have h1:=h.ref (ts:=ts);have h2:=h1.1.opt HT m_at;have h3:=h2.1.opt HT m_ex;have g2:=opt_g HT m_at (refP ts p).2;have g3:=opt_g HT m_ex (if sees ts [m_at] (refP ts p).2 then atomP ts (exprP ts 14) (nxt (refP ts p).2) else (zE,(refP ts p).2)).2
 exact⟨h3.1,fun hk=>by
  have k3:=h3.2 hk;have k2:=h2.2 (g3.okof hk);have k1:=h1.2 (g2.okof (g3.okof hk))
  show Pl.mk _ _ _=Pl.mk _ _ _
  rw[k1,k2,k3]⟩
theorem zi1:∀(k:Nat) (l:List Pl) (p:PS) (r:RS),Rel p r→r.bad=false→ts.length<r.i+k+1→Sim (placeLoop ts k (l++[(placeP ts p).1]) (placeP ts p).2) (rplaceLoop ts (k+1) l r):=by
 intro k
 induction k with
 | zero =>
  intro l p r h hb hk
  unfold placeLoop rplaceLoop
  have h5:=zni HT h;have hi:=h5.1.is (ts:=ts) m_gt;rw[if_neg (by rw[hb];simp)]
  have hn:rIs ts m_gt (rplace ts r).2=false:=by
   cases hq:rIs ts m_gt (rplace ts r).2 with
   | false=>rfl
   | true =>
    rw[hq]at hi;have h6:=zan HT hi;have h7:=(zb9 HT p).le;have h8:=h.i;omega
  rw[if_neg (by rw[hn];simp)];exact⟨h5.1,fun h6=>by rw[h5.2 h6]⟩
 | succ k ih =>
  intro l p r h hb hk
  unfold placeLoop rplaceLoop
  have h5:=zni HT h;have hi:=h5.1.is (ts:=ts) m_gt;rw[hi,if_neg (c:=r.bad=true) (by rw[hb];simp)]
  cases hq:rIs ts m_gt (rplace ts r).2 with
  | false =>
   rw[if_neg sy,if_neg sy];exact⟨h5.1,fun h6=>by rw[h5.2 h6]⟩
  | true =>
   rw[if_pos rfl,if_pos rfl];have hok:(placeP ts p).2.ok=true:=by rw[hq]at hi;exact zaj hi
   rw[h5.2 hok];refine ih _ _ _ h5.1.nxt ?_ ?_
   · exact h5.1.good hok
   · have h7:=(zb9 HT p).le
     have h8:=h.i;have h9:=h5.1.i
     show ts.length<(rplace ts r).2.i+1+k+1
     omega
theorem decl_s{p:PS}{r:RS}(h:Rel p r):Sim (declP ts p) (rdecl ts (bytesOf (rk ts r).text) (rnx r)):=by
 have h1:=(h.nxt).ref (ts:=ts);have h2:=h1.1.take (ts:=ts) m_eq;have hT:=zas HT
 unfold declP rdecl
 rw[h.pk];dsimp only;generalize bytesOf (rk ts r).text=kd
 by_cases hk:kd=k_let
 · rw[if_pos hk,if_pos hk]
   have h3:=zkn HT 14 _ _ h2;refine⟨h3.1.take _,fun h6=>?_⟩;have g3:=(hT _ _).okof h6;have g2:=(za1 HT 14 _).okof g3
   show Dc.mk _ _ _ _=Dc.mk _ _ _ _
   rw[h3.2 g3,h1.2 ((hT _ _).okof g2)]
 · rw[if_neg hk,if_neg hk]
   cases hb:(rneed ts m_eq (rname ts (rnx r)).2).bad with
   | true =>
    have hpo:(takeP ts m_eq (refP ts (nxt p)).2).ok=false:=by rw[h2.ok,hb];rfl
    have hr:rplaceLoop ts (ts.length+2) [] (rneed ts m_eq (rname ts (rnx r)).2)=([],rneed ts m_eq (rname ts (rnx r)).2):=by unfold rplaceLoop;rw[if_pos hb]
    rw[hr];have h7:=(zb9 HT (takeP ts m_eq (refP ts (nxt p)).2)).trans (zbs HT (ts.length+1) [(placeP ts (takeP ts m_eq (refP ts (nxt p)).2)).1] _);have h8:=(h2.stay h7 hpo).take (ts:=ts) m_semi;exact⟨h8,fun h9=>by have:=(h7.trans (hT m_semi _)).notok hpo;rw[this]at h9;cases h9⟩
   | false =>
    have h5:=zi1 HT (ts.length+1) [] _ _ h2 hb om;refine⟨h5.1.take _,fun h6=>?_⟩;have g5:=(hT _ _).okof h6;have g2:=(zb9 HT _).okof ((zbs HT _ _ _).okof g5)
    show Dc.mk _ _ _ _=Dc.mk _ _ _ _
    rw[←h5.2 g5,h1.2 ((hT _ _).okof g2)]
    rfl
theorem zlw:∀(k:Nat) (l l':List Dc) (p:PS) (r:RS),Rel p r→(p.ok=true→l=l')→Sim (declLoop ts k l p) (rdeclLoop ts k l' r):=by
 intro k
 induction k with
 | zero=>intro e e' p r h he;exact⟨h,he⟩
 | succ k ih =>
  intro e e' p r h he
  unfold declLoop rdeclLoop
  have hi:sees ts [k_let,k_route] p=(rIs ts k_let r || rIs ts k_route r):=by rw[←zq2];unfold sees;rw[h.ok,h.pk]
  rw[←hi]
  cases hq:sees ts [k_let,k_route] p with
  | false=>exact⟨h,he⟩
  | true =>
   have h5:=decl_s HT h;rw[if_pos rfl,if_pos rfl,he (zaj hq)];exact ih _ _ _ _ h5.1 fun h6=>by rw[h5.2 h6]
theorem zm4:∀(k:Nat) (l l':List Rf) (p:PS) (r:RS),Rel p r→(p.ok=true→l=l')→Sim (refLoop ts k l p) (rrefLoop ts k l' r):=by
 have _hT:=HT;intro k
 induction k with
 | zero=>intro e e' p r h he;exact⟨h,he⟩
 | succ k ih =>
  intro e e' p r h he
  unfold refLoop rrefLoop
  rw[h.is]
  cases hq:rIs ts m_comma r with
  | false=>exact⟨h,he⟩
  | true =>
   have hi:=h.is (ts:=ts) m_comma;rw[hq]at hi;have h5:=(h.nxt).ref (ts:=ts);rw[if_pos rfl,if_pos rfl,he (zaj hi)];exact ih _ _ _ _ h5.1 fun h6=>by rw[h5.2 h6]
theorem via_s(T:ByteArray)(hT:T=k_via)(m:Bool){p:PS}{r:RS}(h:Rel p r):Sim (viaP ts m p) (rroutes ts m (rneed ts T r)):=by
 subst hT;have h1:=(h.take (ts:=ts) k_via).ref (ts:=ts)
 unfold viaP rroutes
 dsimp only
 cases m with
 | false=>exact⟨h1.1,fun h6=>by show [_]=[_];rw[h1.2 h6]⟩
 | true=>exact zm4 HT _ _ _ _ _ h1.1 fun h6=>by rw[h1.2 h6]
omit HT in
theorem tag_s{p:PS}{r:RS}(h:Rel p r):Sim (tagP ts p) (rwith ts k_as r):=by
 unfold tagP rwith
 rw[h.is]
 cases rIs ts k_as r
 · exact⟨h,fun _=>rfl⟩
 · exact(h.nxt).ref
omit HT in
theorem with_s{p:PS}{r:RS}(h:Rel p r):Sim (withP ts p) (rwith ts k_with r):=by
 unfold withP rwith
 rw[h.is]
 cases rIs ts k_with r
 · exact⟨h,fun _=>rfl⟩
 · exact(h.nxt).ref
omit HT in
theorem one_s{p:PS}{r:RS}(h:Rel p r):Sim ([(refP ts p).1],(refP ts p).2) (rroutes ts false r):=by
 have h1:=h.ref (ts:=ts);exact⟨h1.1,fun h6=>by show [_]=[_];rw[h1.2 h6]⟩
end
section
variable{ts:List Lx.Tok}(HT:Ends ts)
theorem zqy{T:ByteArray}(h:T∈ten):T=k_send∨T=k_split∨T=k_cover∨T=k_wait∨T=k_block∨T=k_after∨T=k_repeat∨T=k_retry∨T=k_every∨T=k_if:=by
 simpa[ten] using h
theorem zjy{s:PS}(h:sees ts ten s=true):bytesOf (pk ts s).text∈ten:=by
 unfold sees isOf at h
 simp only[Bool.and_eq_true]at h;exact zbz.1 h.2.2
include HT
section
variable{st:PS→St × PS}{sr:RS→St × RS}(HG:∀s,Pg ts s (st s).2)(HS:∀p r,Rel p r→sees ts ten p=true→Sim (st p) (sr r))(HN:∀p,sees ts ten p=false→st p=(zT,failP ts 9 p))(HP:∀p,sees ts ten p=true→(st p).2.ok=true→p.i<(st p).2.i)
include HG HS HN HP
theorem zlz:∀(k:Nat) (l l':List St) (p:PS) (r:RS),Rel p r→(p.ok=true→l=l')→ts.length<r.i+k+1→Sim ((bodyLoop ts st (k+1) l p).1,takeP ts m_rbr (bodyLoop ts st (k+1) l p).2) ((rstmtsLoop ts sr k l' r).1,rneed ts m_rbr (rstmtsLoop ts sr k l' r).2):=by
 have _hG:=HG;intro k
 induction k with
 | zero =>
  intro l l' p r h he hk
  have hn:sees ts ten p=false:=by
   cases hq:sees ts ten p with
   | false=>rfl
   | true=>have:=zan HT hq;have:=h.i;omega
  unfold bodyLoop rstmtsLoop
  rw[HN p hn]
  cases hc:(p.ok && !sees ts [m_rbr] p)with
  | false =>
   exact⟨h.take _,fun h6=>he ((zas HT _ _).okof h6)⟩
  | true =>
   simp only[Bool.and_eq_true,Bool.not_eq_true']at hc;have hb:=h.good hc.1;have hf:=h.fail (ts:=ts) 9 (by decide);have hfb:(failP ts 9 p).ok=false:=by unfold failP;rw[if_pos hc.1];rfl
   have e1:takeP ts m_rbr (failP ts 9 p)=failP ts 9 p:=by unfold takeP;rw[hfb];rfl
   have e2:rneed ts m_rbr r=rstop ts 9 r:=by unfold rneed;rw[←h.is,hc.2];rfl
   simp only[if_true,bodyLoop];rw[e1,e2];exact⟨hf,fun h6=>by rw[hfb]at h6;cases h6⟩
 | succ k ih =>
  intro l l' p r h he hk;have hR:rstmtsLoop ts sr (k+1) l' r=if rbegins ts r then rstmtsLoop ts sr k (l'++[(sr r).1]) (sr r).2 else (l',r):=rfl;have hP:bodyLoop ts st (k+1+1) l p=if p.ok && !sees ts [m_rbr] p then bodyLoop ts st (k+1) (l++[(st p).1]) (st p).2 else (l,p):=rfl;rw[hR,hP,←h.ten]
  cases hok:p.ok with
  | false =>
   have hn:sees ts ten p=false:=by unfold sees;rw[hok];rfl
   rw[hn];exact⟨h.take _,fun h6=>he ((zas HT _ _).okof h6)⟩
  | true =>
   have hb:=h.good hok
   cases hr:sees ts [m_rbr] p with
   | true =>
    have hn:sees ts ten p=false:=by
     cases hq:sees ts ten p with
     | false=>rfl
     | true =>
      have h7:=zjy hq
      unfold sees isOf at hr
      simp only[Bool.and_eq_true]at hr;have h8:=zbz.1 hr.2.2;simp only[List.mem_singleton]at h8;rw[h8]at h7
      rcases zqy h7 with e|e|e|e|e|e|e|e|e|e <;> exact absurd e (by decide)
    rw[hn];exact⟨h.take _,fun h6=>he hok⟩
   | false =>
    simp only[Bool.not_false,Bool.and_self,if_true]
    cases hq:sees ts ten p with
    | true =>
     simp only[if_true];have h5:=HS p r h hq
     cases ho:(st p).2.ok with
     | true =>
      refine ih _ _ _ _ h5.1 (fun h6=>by rw[he hok,h5.2 h6]) ?_;have h7:=HP p hq ho;have h8:=h.i;have h9:=h5.1.i;omega
     | false =>
      have hbr:=h5.1.bad ho;have e3:bodyLoop ts st (k+1) (l++[(st p).1]) (st p).2=(l++[(st p).1],(st p).2):=by unfold bodyLoop;rw[ho];rfl
      have e4:rstmtsLoop ts sr k (l'++[(sr r).1]) (sr r).2=(l'++[(sr r).1],(sr r).2):=by
       cases k with
       | zero=>rfl
       | succ k=>unfold rstmtsLoop rbegins;rw[hbr];rfl
      rw[e3,e4];exact⟨h5.1.take _,fun h6=>by have:=(zas HT m_rbr (st p).2).okof h6;rw[ho]at this;cases this⟩
    | false =>
     simp only[Bool.false_eq_true,if_false];rw[HN p hq];have hf:=h.fail (ts:=ts) 9 (by decide);have hfb:(failP ts 9 p).ok=false:=by unfold failP;rw[if_pos hok];rfl
     have e1:takeP ts m_rbr (failP ts 9 p)=failP ts 9 p:=by unfold takeP;rw[hfb];rfl
     have e2:rneed ts m_rbr r=rstop ts 9 r:=by unfold rneed;rw[←h.is,hr];rfl
     have e3:bodyLoop ts st (k+1) (l++[zT]) (failP ts 9 p)=(l++[zT],failP ts 9 p):=by unfold bodyLoop;rw[hfb];rfl
     rw[e3,e2];dsimp only;rw[e1];exact⟨hf,fun h6=>by rw[hfb]at h6;cases h6⟩
theorem body_s{p:PS}{r:RS}(h:Rel p r):Sim (bodyP ts st p) (rbody ts sr r):=by
 unfold bodyP rbody rstmts
 have h1:=((h.bound (ts:=ts) m_lbr p.bo r.bo fun hb=>(h.n hb).1).take (ts:=ts) m_lbr).upBo 1;dsimp only;generalize ({ takeP ts m_lbr (if sees ts [m_lbr] p && p.bo == 12 then failP ts 11 p else p)with bo:=(takeP ts m_lbr (if sees ts [m_lbr] p && p.bo == 12 then failP ts 11 p else p)).bo+1 } : PS)=p1 at h1 ⊢;generalize ({ rneed ts m_lbr (if rIs ts m_lbr r && r.bo == 12 then rstop ts 11 r else r)with bo:=(rneed ts m_lbr (if rIs ts m_lbr r && r.bo == 12 then rstop ts 11 r else r)).bo+1 } : RS)=r1 at h1 ⊢;have h2:=zlz HT HG HS HN HP (ts.length+1) [] [] p1 r1 h1 (fun _=>rfl) om;exact⟨h2.1.upBo (-1),h2.2⟩
theorem zre{p:PS}{r:RS}(h:Rel p r)(hs:sees ts ten p=true):Sim (stmtG ts st p) (rstmtG ts sr r):=by
 have hm:=zqy (zjy hs)
 unfold stmtG rstmtG
 rw[if_pos hs,←h.pk];have h1:=h.nxt;have E:∀p r,Rel p r→Sim (EX ts p) (REX ts r):=zkn HT 14;have EG:=za1 HT 14;have B:∀ {p r},Rel p r→Sim (bodyP ts st p) (rbody ts sr r):=body_s HT HG HS HN HP;have BG:=zf8 HT HG;have T:=zas HT;have V:=via_g HT;have G:=tag_g HT;have W:=zl0 HT;dsimp only;generalize ((pk ts p).at_:Int)=a;generalize bytesOf (pk ts p).text=kd at hm ⊢
 rcases hm with rfl|rfl|rfl|rfl|rfl|rfl|rfl|rfl|rfl|rfl
 · -- send
   rw[if_neg (by decide),if_neg (by decide),if_neg (by decide),if_pos rfl]
   unfold lineP
   rw[if_pos rfl];have h2:=E _ _ h1;have h3:=via_s HT k_via rfl false h2.1;have h4:=with_s (ts:=ts) h3.1;have h5:=tag_s (ts:=ts) h4.1;refine⟨h5.1.take _,fun hk=>?_⟩;have k5:=(T _ _).okof hk;have k4:=(G _).okof k5;have k3:=(W _).okof k4;have k2:=(V _ _).okof k3
   show St.mk _ _ _ _ _ _ _ _ _ _ _=St.mk _ _ _ _ _ _ _ _ _ _ _
   rw[h5.2 k5,h4.2 k4,h3.2 k3,h2.2 k2]
 · -- split
   rw[if_neg (by decide),if_neg (by decide),if_neg (by decide),if_neg (by decide),if_pos rfl]
   unfold lineP
   rw[if_neg (by decide),if_pos rfl];have h2:=E _ _ h1;have h3:=via_s HT k_via rfl true h2.1;have h5:=tag_s (ts:=ts) h3.1;refine⟨h5.1.take _,fun hk=>?_⟩;have k5:=(T _ _).okof hk;have k3:=(G _).okof k5;have k2:=(V _ _).okof k3
   show St.mk _ _ _ _ _ _ _ _ _ _ _=St.mk _ _ _ _ _ _ _ _ _ _ _
   rw[h5.2 k5,h3.2 k3,h2.2 k2]
 · -- cover
   rw[if_neg (by decide),if_neg (by decide),if_neg (by decide),if_neg (by decide),if_neg (by decide),if_neg (by decide),if_pos rfl]
   unfold lineP
   rw[if_neg (by decide),if_neg (by decide),if_pos rfl];have h2:=one_s (ts:=ts) h1;refine⟨h2.1.take _,fun hk=>?_⟩;have k2:=(T _ _).okof hk
   show St.mk _ _ _ _ _ _ _ _ _ _ _=St.mk _ _ _ _ _ _ _ _ _ _ _
   rw[←h2.2 k2]
 · -- wait
   rw[if_neg (by decide),if_neg (by decide),if_neg (by decide),if_neg (by decide),if_neg (by decide),if_neg (by decide),if_neg (by decide),if_pos rfl]
   unfold lineP
   rw[if_neg (by decide),if_neg (by decide),if_neg (by decide),if_pos rfl];have h2:=E _ _ h1;refine⟨h2.1.take _,fun hk=>?_⟩;have k2:=(T _ _).okof hk
   show St.mk _ _ _ _ _ _ _ _ _ _ _=St.mk _ _ _ _ _ _ _ _ _ _ _
   rw[h2.2 k2]
 · -- block
   rw[if_neg (by decide),if_neg (by decide),if_neg (by decide),if_neg (by decide),if_neg (by decide),if_neg (by decide),if_neg (by decide),if_neg (by decide),if_pos rfl]
   unfold lineP
   rw[if_neg (by decide),if_neg (by decide),if_neg (by decide),if_neg (by decide),if_pos rfl];have h2:=h1.ref (ts:=ts);have h3:=via_s HT k_via rfl false h2.1;refine⟨h3.1.take _,fun hk=>?_⟩;have k3:=(T _ _).okof hk;have k2:=(V _ _).okof k3
   show St.mk _ _ _ _ _ _ _ _ _ _ _=St.mk _ _ _ _ _ _ _ _ _ _ _
   rw[h3.2 k3,h2.2 k2]
 · -- after
   rw[if_pos rfl,if_neg (by decide),if_neg (by decide),if_neg (by decide),if_neg (by decide),if_neg (by decide),if_neg (by decide),if_neg (by decide),if_pos rfl];have h2:=E _ _ h1;have h3:=B h2.1;refine⟨h3.1,fun k3=>?_⟩;have k2:=(BG _).okof k3
   show St.mk _ _ _ _ _ _ _ _ _ _ _=St.mk _ _ _ _ _ _ _ _ _ _ _
   rw[h3.2 k3,h2.2 k2]
 · -- repeat
   rw[if_neg (by decide),if_pos rfl,if_neg (by decide),if_neg (by decide),if_neg (by decide),if_neg (by decide),if_neg (by decide),if_neg (by decide),if_neg (by decide),if_neg (by decide),if_pos rfl];have h2:=h1.ref (ts:=ts);have h3:=E _ _ h2.1;have h4:=B h3.1;refine⟨h4.1,fun k4=>?_⟩;have k3:=(BG _).okof k4;have k2:=(EG _).okof k3
   show St.mk _ _ _ _ _ _ _ _ _ _ _=St.mk _ _ _ _ _ _ _ _ _ _ _
   rw[h4.2 k4,h3.2 k3,h2.2 k2]
 · -- retry
   rw[if_neg (by decide),if_neg (by decide),if_neg (by decide),if_neg (by decide),if_neg (by decide),if_pos rfl]
   unfold lineP
   rw[if_neg (by decide),if_neg (by decide),if_neg (by decide),if_neg (by decide),if_neg (by decide),if_pos rfl];have h2:=E _ _ h1;have h3:=E _ _ (h2.1.take (ts:=ts) k_every);have h4:=E _ _ (h3.1.take (ts:=ts) k_send);have h5:=via_s HT k_via rfl false h4.1;have h6:=tag_s (ts:=ts) h5.1;refine⟨h6.1.take _,fun hk=>?_⟩;have k6:=(T _ _).okof hk;have k5:=(G _).okof k6;have k4:=(V _ _).okof k5;have k3:=(T _ _).okof ((EG _).okof k4);have k2:=(T _ _).okof ((EG _).okof k3)
   show St.mk _ _ _ _ _ _ _ _ _ _ _=St.mk _ _ _ _ _ _ _ _ _ _ _
   rw[h6.2 k6,h5.2 k5,h4.2 k4,h3.2 k3,h2.2 k2]
 · -- every
   rw[if_neg (by decide),if_neg (by decide),if_neg (by decide),if_neg (by decide),if_neg (by decide),if_neg (by decide),if_neg (by decide),if_neg (by decide),if_neg (by decide),if_pos rfl]
   unfold lineP
   rw[if_neg (by decide),if_neg (by decide),if_neg (by decide),if_neg (by decide),if_neg (by decide),if_neg (by decide),if_pos rfl];have h2:=E _ _ h1;have h3:=E _ _ (h2.1.take (ts:=ts) k_times);have h4:=one_s (ts:=ts) (h3.1.take (ts:=ts) k_cover);refine⟨h4.1.take _,fun hk=>?_⟩;have k4:=(T _ _).okof hk;have k3:=(T _ _).okof ((ref_g HT _).okof k4);have k2:=(T _ _).okof ((EG _).okof k3)
   show St.mk _ _ _ _ _ _ _ _ _ _ _=St.mk _ _ _ _ _ _ _ _ _ _ _
   rw[←h4.2 k4,h3.2 k3,h2.2 k2]
 · -- if
   rw[if_neg (c:=k_if=k_after) (by decide),if_neg (c:=k_if=k_repeat) (by decide),if_pos (c:=k_if=k_if) rfl,if_neg (c:=k_if=k_send) (by decide),if_neg (c:=k_if=k_split) (by decide),if_neg (c:=k_if=k_retry) (by decide),if_neg (c:=k_if=k_cover) (by decide),if_neg (c:=k_if=k_wait) (by decide),if_neg (c:=k_if=k_block) (by decide),if_neg (c:=k_if=k_every) (by decide),if_neg (c:=k_if=k_after) (by decide),if_neg (c:=k_if=k_repeat) (by decide),if_pos (c:=k_if=k_if) rfl];have h2:=(h1.take (ts:=ts) k_acked).ref (ts:=ts);have h3:=B h2.1
   have h4:Sim (if sees ts [k_else] (bodyP ts st (refP ts (takeP ts k_acked (nxt p))).2).2 then bodyP ts st (nxt (bodyP ts st (refP ts (takeP ts k_acked (nxt p))).2).2) else ([],(bodyP ts st (refP ts (takeP ts k_acked (nxt p))).2).2)) (if rIs ts k_else (rbody ts sr (rname ts (rneed ts k_acked (rnx r))).2).2 then rbody ts sr (rnx (rbody ts sr (rname ts (rneed ts k_acked (rnx r))).2).2) else ([],(rbody ts sr (rname ts (rneed ts k_acked (rnx r))).2).2)):=by
    rw[h3.1.is]
    cases rIs ts k_else (rbody ts sr (rname ts (rneed ts k_acked (rnx r))).2).2
    · exact⟨h3.1,fun _=>rfl⟩
    · exact B h3.1.nxt
   refine⟨h4.1,fun k4=>?_⟩
   have k3:(bodyP ts st (refP ts (takeP ts k_acked (nxt p))).2).2.ok=true:=by
    refine Pg.okof (ts:=ts) ?_ k4;dsimp only
    split
    · rename_i h9;exact(nxt_g (zan HT h9) (zaj h9)).trans (BG _)
    · exact Pg.refl _
   have k2:=(BG _).okof k3
   show St.mk _ _ _ _ _ _ _ _ _ _ _=St.mk _ _ _ _ _ _ _ _ _ _ _
   rw[h4.2 k4,h3.2 k3,h2.2 k2]
end
theorem zqp:∀(d:Nat) (p:PS),sees ts ten p=true→(stmtP ts d p).2.ok=true→p.i<(stmtP ts d p).2.i
 | 0,p,h,hk=>by
  have:(failP ts 9 p).ok=false:=by unfold failP;rw[if_pos (zaj h)];rfl
  rw[show(stmtP ts 0 p).2=failP ts 9 p from rfl,this]at hk
  cases hk
 | d+1,p,h,_=>by
  have E:=za1 HT 14;have B:=zf8 HT (zdo HT d)
  have hg:Pg ts (nxt p) (stmtP ts (d+1) p).2:=by
   show Pg ts (nxt p) (stmtG ts (stmtP ts d) p).2
   unfold stmtG
   rw[if_pos h];dsimp only
   split
   · exact(E _).trans (B _)
   split
   · exact((ref_g HT _).trans (E _)).trans (B _)
   split
   · refine(((zas HT k_acked _).trans (ref_g HT _)).trans (B _)).trans ?_
     split
     · rename_i h2;exact(nxt_g (zan HT h2) (zaj h2)).trans (B _)
     · exact Pg.refl _
   · exact(znx HT _ _ _).trans (zas HT _ _)
  exact hg.le
omit HT in
theorem zqq:∀(d:Nat) (p:PS),sees ts ten p=false→stmtP ts d p=(zT,failP ts 9 p)
 | 0,_,_=>rfl
 | d+1,p,h=>by
  show stmtG ts (stmtP ts d) p=_
  unfold stmtG
  rw[h]
  rfl
theorem zqo:∀(d:Nat) (p:PS) (r:RS),Rel p r→sees ts ten p=true→Sim (stmtP ts d p) (rstmt ts d r)
 | 0,_,_,h,_=>⟨h.fail 9 (by decide),fun _=>rfl⟩
 | d+1,_,_,h,hs=>zre HT (zdo HT d) (zqo d) (zqq d) (zqp HT d) h hs
end
section
variable{ts:List Lx.Tok}(HT:Ends ts)
include HT
theorem zl1:∀(k:Nat) (l l':List St) (p:PS) (r:RS),Rel p r→(p.ok=true→l=l')→ts.length<r.i+k+1→Sim (topLoop ts (k+1) l p) ((rstmtsLoop ts (rstmt ts 14) k l' r).1,if (rk ts (rstmtsLoop ts (rstmt ts 14) k l' r).2).kind≠6 then rstop ts 9 (rstmtsLoop ts (rstmt ts 14) k l' r).2 else (rstmtsLoop ts (rstmt ts 14) k l' r).2):=by
 have hE:∀(l l':List St) (p:PS) (r:RS) (k:Nat),Rel p r→(p.ok=true→l=l')→sees ts ten p=false→Sim (topLoop ts (k+1) l p) (l',if (rk ts r).kind≠6 then rstop ts 9 r else r):=by
  intro l l' p r k h he hn;have hP:topLoop ts (k+1) l p=if p.ok && !kindIs ts 6 p then topLoop ts k (l++[(stmtP ts 14 p).1]) (stmtP ts 14 p).2 else (l,p):=rfl;rw[hP,zqq 14 p hn]
  cases hok:p.ok with
  | false =>
   have hb:=h.bad hok;have e1:rstop ts 9 r=r:=by unfold rstop;rw[hb];rfl
   rw[e1,ite_self];exact⟨h,fun h6=>absurd (hok.symm.trans h6) (by decide)⟩
  | true =>
   have hb:=h.good hok;have hki:=h.kind (ts:=ts) 6
   unfold kindIs at hki
   rw[hok,Bool.true_and]at hki
   cases hk:kindIs ts 6 p with
   | true =>
    have h6:(rk ts r).kind=6:=by unfold kindIs at hk;rw[h.pk]at hk;simp at hk;exact hk.2
    rw[if_neg (c:=(rk ts r).kind≠6) (by simp[h6])];exact⟨h,fun _=>he hok⟩
   | false =>
    have h6:(rk ts r).kind≠6:=by unfold kindIs at hk;rw[h.pk,hok]at hk;simpa using hk
    rw[if_pos (c:=(rk ts r).kind≠6) h6];have hf:=h.fail (ts:=ts) 9 (by decide);have hfb:(failP ts 9 p).ok=false:=by unfold failP;rw[if_pos hok];rfl
    have e3:topLoop ts k (l++[zT]) (failP ts 9 p)=(l++[zT],failP ts 9 p):=by
     cases k with
     | zero=>rfl
     | succ k=>unfold topLoop;rw[hfb];rfl
    simp only[Bool.not_false,Bool.and_self,if_true];rw[e3];exact⟨hf,fun h6=>by rw[hfb]at h6;cases h6⟩
 intro k
 induction k with
 | zero =>
  intro l l' p r h he hk
  have hn:sees ts ten p=false:=by
   cases hq:sees ts ten p with
   | false=>rfl
   | true=>have:=zan HT hq;have:=h.i;omega
  exact hE l l' p r 0 h he hn
 | succ k ih =>
  intro l l' p r h he hk;have hR:rstmtsLoop ts (rstmt ts 14) (k+1) l' r=if rbegins ts r then rstmtsLoop ts (rstmt ts 14) k (l'++[(rstmt ts 14 r).1]) (rstmt ts 14 r).2 else (l',r):=rfl
  cases hq:sees ts ten p with
  | false =>
   rw[hR,←h.ten,hq];exact hE l l' p r (k+1) h he hq
  | true =>
   have hP:topLoop ts (k+1+1) l p=if p.ok && !kindIs ts 6 p then topLoop ts (k+1) (l++[(stmtP ts 14 p).1]) (stmtP ts 14 p).2 else (l,p):=rfl
   have hk6:kindIs ts 6 p=false:=by
    have h7:=zaj hq
    unfold sees isOf at hq
    unfold kindIs
    simp only[Bool.and_eq_true,Bool.or_eq_true,decide_eq_true_eq]at hq;rw[h7];have:(pk ts p).kind≠6:=by rcases hq.2.1 with h|h <;> rw[h] <;> decide
    simpa using this
   rw[hR,←h.ten,hq,hP,zaj hq,hk6];simp only[Bool.not_false,Bool.and_self,if_true];have h5:=zqo HT 14 p r h hq
   cases ho:(stmtP ts 14 p).2.ok with
   | true =>
    refine ih _ _ _ _ h5.1 (fun h6=>by rw[he (zaj hq),h5.2 h6]) ?_;have h7:=zqp HT 14 p hq ho;have h8:=h.i;have h9:=h5.1.i;omega
   | false =>
    have hbr:=h5.1.bad ho;have e3:topLoop ts (k+1) (l++[(stmtP ts 14 p).1]) (stmtP ts 14 p).2=(l++[(stmtP ts 14 p).1],(stmtP ts 14 p).2):=by unfold topLoop;rw[ho];rfl
    have e4:rstmtsLoop ts (rstmt ts 14) k (l'++[(rstmt ts 14 r).1]) (rstmt ts 14 r).2=(l'++[(rstmt ts 14 r).1],(rstmt ts 14 r).2):=by
     cases k with
     | zero=>rfl
     | succ k=>unfold rstmtsLoop rbegins;rw[hbr];rfl
    have e5:rstop ts 9 (rstmt ts 14 r).2=(rstmt ts 14 r).2:=by unfold rstop;rw[hbr];rfl
    rw[e3,e4];dsimp only;rw[e5,ite_self];exact⟨h5.1,fun h6=>by rw[ho]at h6;cases h6⟩
theorem zlh:parseT ts=rparseT ts:=by
 have h0:Rel s0 r0:=⟨rfl,rfl,fun h=>(by cases h),fun _=>⟨rfl,rfl⟩⟩;have h1:=zlw HT (ts.length+1) [] [] s0 r0 h0 fun _=>rfl
 have h2:=zl1 HT (ts.length+1) [] [] _ _ h1.1 (fun _=>rfl) om
 unfold parseT rparseT rstmts
 dsimp only;generalize hX:topLoop ts (ts.length+2) [] (declLoop ts (ts.length+1) [] s0).2=X;have hX':topLoop ts (ts.length+1+1) [] (declLoop ts (ts.length+1) [] s0).2=X:=hX;rw[hX']at h2;generalize rstmtsLoop ts (rstmt ts 14) (ts.length+1) [] (rdeclLoop ts (ts.length+1) [] r0).2=Y at h2 ⊢;generalize (if (rk ts Y.2).kind≠6 then rstop ts 9 Y.2 else Y.2)=Z at h2 ⊢
 cases hb:Z.bad with
 | true =>
  have hok:X.2.ok=false:=by rw[h2.1.ok,hb];rfl
  have h5:=h2.1.f hb;simp only[hok,Bool.false_eq_true,if_false,if_true,h5.1,h5.2]
 | false =>
  have hok:X.2.ok=true:=by rw[h2.1.ok,hb];rfl
  have k1:(declLoop ts (ts.length+1) [] s0).2.ok=true:=(zda HT (ts.length+2) [] _).okof (by rw[hX];exact hok);have e2:X.1=Y.1:=h2.2 hok;simp only[hok,if_true,Bool.false_eq_true,if_false,h1.2 k1,e2]
end
section
variable{ts:List Lx.Tok}(HT:Ends ts)
include HT
theorem zi2(hn:0<ts.length):(parseT ts).2=(0,0)∨((parseT ts).1=⟨[],[]⟩∧((parseT ts).2.1=9∨(parseT ts).2.1=11)∧∃j,j<ts.length∧(parseT ts).2.2=((tokAt ts j).at_:Int)):=by
 have h1:=(zdm HT (ts.length+1) [] s0).trans (zda HT (ts.length+2) [] (declLoop ts (ts.length+1) [] s0).2);have h2:=h1.flt hn
 unfold parseT
 dsimp only;generalize topLoop ts (ts.length+2) [] (declLoop ts (ts.length+1) [] s0).2=X at h2 ⊢
 cases hk:X.2.ok with
 | true=>left;rfl
 | false =>
  right
  simp only[Bool.false_eq_true,if_false]
  rcases h2 with ⟨h3,_⟩|h3
  · exfalso
    unfold PS.ok at hk
    rw[h3]at hk
    cases hk
  · exact⟨trivial,h3⟩
end
end
end Go.Proofs.YtafjkbbiaopemaaGreatDoor.Tr
namespace Go.Proofs.YtafjkbbiaopemaaGreatDoor
open Go.RowKit
section
theorem zd3{P:Program}{w:World}{fn:Func}{p p2:Tmp}{ty ty2:TypeId}(h:fn.results=#[.cell p ty,.cell p2 ty2])(tmps:Array Value)(g g2:Nat)(t t2:TypeId)(cs cs2:List Value)(hp:tmps.getD p undef=.pointer (some ⟨g,0,none⟩))(hp2:tmps.getD p2 undef=.pointer (some ⟨g2,0,none⟩))
 (hB:Blk w g t cs) (hB2:Blk w g2 t2 cs2) (d d2:TypeDesc) (hu:P.underlying ty=some d) (hd:d.isRow=true) (hi:(P.info? ty).map (·.size)=some cs.length) (hu2:P.underlying ty2=some d2) (hd2:d2.isRow=true) (hi2:(P.info? ty2).map (·.size)=some cs2.length):
 (results fn tmps).run P w=.ok (.tuple #[.agg cs.toArray,.agg cs2.toArray]) w:=by
 have hp':tmps[p]?.getD undef=.pointer (some ⟨g,0,none⟩):=by rw[←hp];simp
 have hp2':tmps[p2]?.getD undef=.pointer (some ⟨g2,0,none⟩):=by rw[←hp2];simp
 simp[results,h,hp',hp2',asAddr,run_loadVar_mid w g 0 ty cs d hB.range hu hd hi,run_loadVar_mid w g2 0 ty2 cs2 d2 hB2.range hu2 hd2 hi2]
theorem zsn{t:Lx.Tok}{l:List ByteArray}(h:isOf t l=true):t.kind≠6:=fun e=>by
 unfold isOf at h;rw[e]at h;revert h;simp
section
variable(g:Nat)(A:Option Addr)(n c i:Nat)(ts:List Lx.Tok)(t:Lx.Tok)
def Stm(w:World):Prop:=Blk w g 100 [.slice A n c,.int .i64 i]∧RdS 4 w A n (toksCells ts)
end
theorem Stm.below{g:Nat}{A:Option Addr}{n c i:Nat}{ts:List Lx.Tok}{w w':World}(h:Stm g A n c i ts w)(hb:Below w.heap.size w w'):Stm g A n c i ts w':=⟨h.1.below hb h.1.lt,h.2.below hb⟩
theorem Stm.alloc{g:Nat}{A:Option Addr}{n c i:Nat}{ts:List Lx.Tok}{w:World}(h:Stm g A n c i ts w)(o:Obj):Stm g A n c i ts (w.alloc o):=⟨h.1.alloc o,h.2.alloc o⟩
theorem Rd.new1(w:World)(t:TypeId)(T:ByteArray):Rd (w.alloc (.cells #[.string T] t)) (some ⟨w.heap.size,0,none⟩) 1 (strs [T]):=RdS.to1 (RdS.new w t [.string T] 1 rfl)
theorem fld3(a b c d:Value)(W:World):(Instr.field 72 (.agg #[a,b,c,d]) 3).run Tryz.prog W=.ok d W:=by kernel_rfl
theorem Rd.new1'{w:World}{t:TypeId}{T:ByteArray}{g:Nat}(hg:g=w.heap.size):Rd (w.alloc (.cells #[.string T] t)) (some ⟨g,0,none⟩) 1 (strs [T]):=by subst hg;exact Rd.new1 w t T
theorem zrb(g:Nat)(A:Option Addr)(n c i:Nat)(ts:List Lx.Tok)(t:Lx.Tok)(T:ByteArray)(w:World)(h:Stm g A n c i ts w)(hn:ts.length=n)(hn8:n≤100000)(ht:tokAt ts i=t)(hno:isOf t [T]=false):
 Calls Tryz.prog 82 #[.pointer (some ⟨g,0,none⟩),.string T] w fun e w'=>e=.returned (.agg #[.int .i64 9,.int .i64 t.at_])∧Below w.heap.size w w':=by
 have HI:=qh (fun W A1 n1 c1 (h:Stm g A n c i ts W) (h2:Rd W A1 n1 (strs [T])) (h3:n1≤140737488355328)=>hno ▸ zn1 g A n c i ts t A1 n1 c1 [T] W h.1 h.2 hn hn8 ht h2 h3);have HP:=qh (fun W (h:Stm g A n c i ts W)=>ht ▸ zd5 g A n c i ts W h.1 h.2 hn hn8);have HS:=qh h;clear h ht hn hno;have HZ:Hid (∀W,Below (w.alloc (.cells #[.int .i64 0,.int .i64 0] 29)).heap.size (w.alloc (.cells #[.int .i64 0,.int .i64 0] 29)) W→Blk W w.heap.size 29 [.int .i64 0,.int .i64 0]):=fun W hW=>(Blk.new w _ _).below hW sy
 unfold tokCells at *
 have hfld:=fld3 (.int .i64 t.kind) (.string (bytesOf t.text)) (.int .i64 t.num) (.int .i64 t.at_)
 go_enter Tryz.func82, Tryz.ntmps82
 go_wp2_with (first
  | (go_at_call 46;(with_reducible refine(HI.out _ (some ⟨w.heap.size+1,0,none⟩) 1 1 ((HS.out.alloc _).alloc _) (by exact Rd.new1' sy) om).mono ?_);rintro e w2 ⟨rfl,hB2⟩)
  | (go_at_call 53;refine(HP.out _ (((HS.out.alloc _).alloc _).below hB2)).mono ?_;rintro e w3 ⟨rfl,hB3⟩;have hB13:=(((Below.refl _ (w.alloc (.cells #[.int .i64 0,.int .i64 0] 29))).alloc lr (.cells #[.string T] 9)).trans (hB2.mono sy)).trans (hB3.mono (by have:=hB2.size;simp at this;simp;omega));have hz3:=HZ.out w3 hB13;obtain⟨z0,z1,f0,f1⟩:=hz3.two))
 refine bodyPost_ret (res_c rfl _ w.heap.size 29 [.int .i64 9,.int .i64 t.at_] rfl (by exact(hz3.set_ 0 _).set_ 1 _) _ Tryz.underlying29 rfl hd48) rfl ⟨rfl,?_⟩;exact((((Below.refl _ _).alloc lr _).trans (hB13.mono sy)).setCell lr _).setCell lr _
theorem zoo(g:Nat)(A:Option Addr)(n c i:Nat)(ts:List Lx.Tok)(t:Lx.Tok)(T:ByteArray)(w:World)(h:Stm g A n c i ts w)(hn:ts.length=n)(hn8:n≤100000)(hi:i≤100000)(ht:tokAt ts i=t)(hyes:isOf t [T]=true):
 Calls Tryz.prog 82 #[.pointer (some ⟨g,0,none⟩),.string T] w fun e w'=>e=.returned (.agg #[.int .i64 0,.int .i64 0])∧Blk w' g 100 [.slice A n c,.int .i64 ((i+1:Nat):Int)]∧Wrote g w w':=by
 have HI:=qh (fun W A1 n1 c1 (h:Stm g A n c i ts W) (h2:Rd W A1 n1 (strs [T])) (h3:n1≤140737488355328)=>hyes ▸ zn1 g A n c i ts t A1 n1 c1 [T] W h.1 h.2 hn hn8 ht h2 h3)
 have HX:Hid (∀W (h:Stm g A n c i ts W),Calls Tryz.prog 47 #[.pointer (some ⟨g,0,none⟩)] W fun e w'=>e=.returned (.agg (tokCells t).toArray)∧Blk w' g 100 [.slice A n c,.int .i64 ((i+1:Nat):Int)]∧Wrote g W w'):=fun W h=>by
  have:=zki g A n c i ts t W h.1 h.2 hn hn8 hi ht;rw[if_neg (zsn hyes)]at this;exact this
 have HS:=qh h;have hgl:=h.1.lt;clear h ht hn hyes;have HZ:Hid (∀W,Below (w.alloc (.cells #[.int .i64 0,.int .i64 0] 29)).heap.size (w.alloc (.cells #[.int .i64 0,.int .i64 0] 29)) W→Blk W w.heap.size 29 [.int .i64 0,.int .i64 0]):=fun W hW=>(Blk.new w _ _).below hW sy
 unfold tokCells at *
 go_enter Tryz.func82, Tryz.ntmps82
 go_wp2_with (first
  | (go_at_call 46;(with_reducible refine(HI.out _ (some ⟨w.heap.size+1,0,none⟩) 1 1 ((HS.out.alloc _).alloc _) (by exact Rd.new1' sy) om).mono ?_);rintro e w2 ⟨rfl,hB2⟩)
  | (go_at_call 47;refine(HX.out _ (((HS.out.alloc _).alloc _).below hB2)).mono ?_;rintro e w3 ⟨rfl,hb3,hW3⟩;have hB12:=((Below.refl _ (w.alloc (.cells #[.int .i64 0,.int .i64 0] 29))).alloc lr (.cells #[.string T] 9)).trans (hB2.mono sy);have hz3:=Blk.grown (HZ.out w2 hB12) hW3 (fun e=>by injection e with e;omega);obtain⟨z0,z1,f0,f1⟩:=hz3.two))
 have hne:g≠w.heap.size:=Nat.ne_of_lt hgl;refine bodyPost_ret (res_c rfl _ w.heap.size 29 [.int .i64 0,.int .i64 0] rfl (by exact(hz3.set_ 0 _).set_ 1 _) _ Tryz.underlying29 rfl hd48) rfl ⟨rfl,?_,?_⟩
 · exact(hb3.far hne _).far hne _
 · have h0:=Below.wrote (((Below.refl _ w).alloc lr _).trans (hB12.mono sy)) hW3
   exact(h0.setNew lr _).setNew lr _
theorem new_no(s:ByteArray)(w:World){p q:Nat}{ts:List Lx.Tok}(h:Lx.scan s.data.toList=((p,q),ts))(hp:p≠0):
 Calls Tryz.prog 19 #[.string s] w fun e w'=>e=.returned (.tuple #[.pointer none,.agg #[.int .i64 p,.int .i64 q]])∧Below w.heap.size w w':=by
 have HSC:=qh (fun w=>zmg s w h (n:=ts.length) rfl);have e1:((p:Int) != 0)=true:=by rw[bne_iff_ne];omega
 clear h hp;have HZ:Hid (∀W,Below (w.alloc (.cells #[.int .i64 0,.int .i64 0] 29)).heap.size (w.alloc (.cells #[.int .i64 0,.int .i64 0] 29)) W→Blk W w.heap.size 29 [.int .i64 0,.int .i64 0]∧Below w.heap.size w W):=fun W hW=>⟨(Blk.new w _ _).below hW sy,((Below.refl _ w).alloc lr _).trans (hW.mono sy)⟩
 go_enter Tryz.func19, Tryz.ntmps19
 go_wp2_with (go_at_call 45;refine(HSC.out _).mono ?_;rintro e w2 ⟨A2,c2,rfl,hc2,hown2,hB2⟩;obtain⟨hz,hBw⟩:=HZ.out w2 hB2;have hl1:=hz.lt)
 have hz':=hz.alloc (.cells #[.int .i64 p,.int .i64 q] 29);have hBw':=hBw.alloc hBw.size (.cells #[.int .i64 p,.int .i64 q] 29);have hnew:=Blk.new w2 29 [.int .i64 p,.int .i64 q];clear hz hBw hB2 hown2;generalize w2.alloc (.cells #[.int .i64 p,.int .i64 q] 29)=w3 at *;generalize w2.heap.size=u at *;obtain⟨z0,z1,f0,f1⟩:=hz'.two;obtain⟨x0,x1,k0,k1⟩:=hnew.two;have n1:¬u=w.heap.size:=om
 go_region
 go_wp2_with fail
 refine bodyPost_ret (zav rfl _ w.heap.size 29 [.int .i64 p,.int .i64 q] rfl (by exact(hz'.drew.set_ 0 _).set_ 1 _) _ Tryz.underlying29 rfl hd48) rfl ?_;exact⟨rfl,(hBw'.drew.setCell lr _).setCell lr _⟩
theorem zsc(s:ByteArray)(w:World){n:Nat}{ts:List Lx.Tok}(h:Lx.scan s.data.toList=((0,0),ts))(hn:ts.length=n):
 Calls Tryz.prog 19 #[.string s] w fun e w'=>∃A c g,e=.returned (.tuple #[.pointer (some ⟨g,0,none⟩),.agg #[.int .i64 0,.int .i64 0]])∧w.heap.size≤g∧Stm g A n c 0 ts w'∧Below w.heap.size w w':=by
 have HSC:=qh (fun w=>zmg s w h hn);clear h;have HZ:Hid (∀W,Below (w.alloc (.cells #[.int .i64 0,.int .i64 0] 29)).heap.size (w.alloc (.cells #[.int .i64 0,.int .i64 0] 29)) W→Blk W w.heap.size 29 [.int .i64 0,.int .i64 0]∧Below w.heap.size w W):=fun W hW=>⟨(Blk.new w _ _).below hW sy,((Below.refl _ w).alloc lr _).trans (hW.mono sy)⟩
 go_enter Tryz.func19, Tryz.ntmps19
 go_wp2_with (go_at_call 45;refine(HSC.out _).mono ?_;rintro e w2 ⟨A2,c2,rfl,hc2,hown2,hB2⟩;obtain⟨hz,hBw⟩:=HZ.out w2 hB2;have hl1:=hz.lt;obtain⟨z0,z1,f0,f1⟩:=hz.two)
 refine bodyPost_ret (zav rfl _ w.heap.size 29 [.int .i64 0,.int .i64 0] rfl (by exact(((hz.set_ 0 _).set_ 1 _).alloc _).alloc _) _ Tryz.underlying29 rfl hd48) rfl ?_;have ho:Only w2 ((w2.setCell ⟨w.heap.size,0,none⟩ (.int .i64 0)).setCell ⟨w.heap.size,1,none⟩ (.int .i64 0)) w.heap.size:=((Only.refl w2 w.heap.size).setCell 0 _).setCell 1 _;have hown3:=hown2.kept ho.grown (.inr (zb0 hown2 hz (by decide)));have hB3:=ho.below hBw lr (Nat.le_of_lt hl1);refine⟨A2,c2,w2.heap.size+1,rfl,by omega,⟨?_,((RdS.of_own hown3).alloc _).alloc _⟩,(hB3.alloc hB3.size _).alloc (by have:=hB3.size;simp at this ⊢;omega) _⟩;exact Blk.new' (by simp[World.setCell]) rfl
end
end Go.Proofs.YtafjkbbiaopemaaGreatDoor
namespace Go.Proofs.YtafjkbbiaopemaaGreatDoor.Tr
open Go.RowKit
def RdF(F:Nat→Prop)(sz:Nat)(w:World)(A:Option Addr)(n:Nat)(xs:List Value):Prop:=RdS sz w A n xs∧(0<n→∀ad:Addr,A=some ad→F ad.block∧∀o,w.frozen? ⟨ad.block,o,none⟩=false)
structure Keep(F G:Nat→Prop)(w w':World):Prop where
 size:w.heap.size≤w'.heap.size
 block:∀k,F k→k<w.heap.size→w'.heap[k]? = w.heap[k]?
 to:∀k,F k→k<w.heap.size→G k
theorem RdF.keep{F G:Nat→Prop}{sz:Nat}{w w':World}{A:Option Addr}{n:Nat}{xs:List Value}(h:RdF F sz w A n xs)(hk:Keep F G w w'):RdF G sz w' A n xs:=by
 obtain⟨⟨h1,h2⟩,h3⟩:=h;refine⟨⟨h1,fun hn=>?_⟩,fun hn ad hA=>?_⟩
 · obtain⟨b,off,rfl,hb,hc⟩:=h2 hn
   exact⟨b,off,rfl,Nat.lt_of_lt_of_le hb hk.size,fun j u hu=>(World.cell?_of_block (a:=⟨b,off+j,none⟩) (hk.block b (h3 hn _ rfl).1 hb)).trans (hc j u hu)⟩
 · obtain⟨b,off,rfl,hb,_⟩:=h2 hn
   injection hA with hA
   subst hA;refine⟨hk.to b (h3 hn _ rfl).1 hb,fun o=>?_⟩;have h4:=(h3 hn _ rfl).2 o
   unfold World.frozen? at h4 ⊢
   rw[hk.block b (h3 hn _ rfl).1 hb];exact h4
theorem RdF.nil(F:Nat→Prop)(sz:Nat)(w:World)(A:Option Addr):RdF F sz w A 0 []:=⟨⟨by simp,fun h=>absurd h om⟩,fun h=>absurd h om⟩
def Ex.op:Ex→ByteArray | .mk a _ _ _ _=>a
def Ex.num:Ex→Int | .mk _ a _ _ _=>a
def Ex.text:Ex→ByteArray | .mk _ _ a _ _=>a
def Ex.args:Ex→List Ex | .mk _ _ _ _ a=>a
def exC(e:Ex)(a:Option Addr × Nat):List Value:=[.string e.op,.int .i64 e.num,.string e.text,.int .i64 e.at_,.slice a.1 e.args.length a.2]
def zipC{α β:Type}(f:α→β→List Value):List α→List β→List Value
 | e :: es,a :: al=>f e a++zipC f es al
 | _,_=>[]
theorem zbo{α β:Type}(f:α→β→List Value):∀(es:List α) (sl:List β) (e:α) (a:β),sl.length=es.length→zipC f (es++[e]) (sl++[a])=zipC f es sl++f e a
 | [],[],_,_,_=>by simp[zipC]
 | x :: es,y :: sl,e,a,h=>by
  have h5:=zbo f es sl e a (by simpa using h);simp only[List.cons_append,zipC,h5,List.append_assoc]
theorem zdv{α β:Type}(f:α→β→List Value)(k:Nat)(hf:∀e a,(f e a).length=k):∀(es:List α) (sl:List β) (i:Nat) (e:α) (a:β) (j:Nat) (v:Value),es[i]? = some e→sl[i]? = some a→(f e a)[j]? = some v→(zipC f es sl)[i*k+j]? = some v
 | [],_,i,_,_,_,_,h,_,_=>by simp at h
 | _ :: _,[],i,_,_,_,_,_,h,_=>by simp at h
 | x :: es,y :: sl,0,e,a,j,v,h1,h2,h3=>by
  simp at h1 h2
  subst h1;subst h2;have hj:=(gi9.1 h3).1;simp only[zipC,Nat.zero_mul,Nat.zero_add];rw[ll9 hj];exact h3
 | x :: es,y :: sl,i+1,e,a,j,v,h1,h2,h3=>by
  simp at h1 h2
  have h5:=zdv f k hf es sl i e a j v h1 h2 h3;simp only[zipC];rw[ar9 (by rw[hf,Nat.succ_mul];omega),hf,show(i+1)*k+j-k=i*k+j by rw[Nat.succ_mul];omega];exact h5
inductive ArgsIn (F:Nat→Prop) (w:World):Option Addr→List Ex→Prop
 | mk (A:Option Addr) (es:List Ex) (sl:List (Option Addr × Nat)) (hl:sl.length=es.length) (hr:RdF F 5 w A es.length (zipC exC es sl)) (hi:∀(i:Nat) (e:Ex) (a:Option Addr × Nat),es[i]? = some e→sl[i]? = some a→ArgsIn F w a.1 e.args):ArgsIn F w A es
theorem ArgsIn.keep{F G:Nat→Prop}{w w':World}(hk:Keep F G w w'){A:Option Addr}{es:List Ex}(h:ArgsIn F w A es):ArgsIn G w' A es:=by
 induction h with
 | mk A es sl hl hr hi ih=>exact .mk A es sl hl (hr.keep hk) ih
theorem ArgsIn.nil(F:Nat→Prop)(w:World)(A:Option Addr):ArgsIn F w A []:=.mk A [] [] rfl (RdF.nil F 5 w A) fun _ _ _ h=>(by simp at h)
def rfC(r:Rf):List Value:=[.string r.name,.int .i64 r.at_]
def RfsIn(F:Nat→Prop)(w:World)(A:Option Addr)(l:List Rf):Prop:=RdF F 2 w A l.length (l.flatMap rfC)
theorem RfsIn.keep{F G:Nat→Prop}{w w':World}(hk:Keep F G w w'){A:Option Addr}{l:List Rf}(h:RfsIn F w A l):RfsIn G w' A l:=RdF.keep h hk
structure StA where
 a:Option Addr × Nat
 b:Option Addr × Nat
 c:Option Addr × Nat
 r:Option Addr × Nat
 y:Option Addr × Nat
 z:Option Addr × Nat
def St.kind:St→ByteArray | .mk a _ _ _ _ _ _ _ _ _ _=>a
def St.at_:St→Int | .mk _ a _ _ _ _ _ _ _ _ _=>a
def St.name:St→Rf | .mk _ _ a _ _ _ _ _ _ _ _=>a
def St.ea:St→Ex | .mk _ _ _ a _ _ _ _ _ _ _=>a
def St.eb:St→Ex | .mk _ _ _ _ a _ _ _ _ _ _=>a
def St.ec:St→Ex | .mk _ _ _ _ _ a _ _ _ _ _=>a
def St.routes:St→List Rf | .mk _ _ _ _ _ _ a _ _ _ _=>a
def St.block:St→Rf | .mk _ _ _ _ _ _ _ a _ _ _=>a
def St.tag:St→Rf | .mk _ _ _ _ _ _ _ _ a _ _=>a
def St.body:St→List St | .mk _ _ _ _ _ _ _ _ _ a _=>a
def St.els:St→List St | .mk _ _ _ _ _ _ _ _ _ _ a=>a
def stC(s:St)(p:StA):List Value :=
 [.string s.kind,.int .i64 s.at_,.string s.name.name,.int .i64 s.name.at_]++(exC s.ea p.a++(exC s.eb p.b++(exC s.ec p.c ++
   [.slice p.r.1 s.routes.length p.r.2,.string s.block.name,.int .i64 s.block.at_,.string s.tag.name,.int .i64 s.tag.at_,.slice p.y.1 s.body.length p.y.2,.slice p.z.1 s.els.length p.z.2])))
inductive BodyIn (F:Nat→Prop) (w:World):Option Addr→List St→Prop
 | mk (A:Option Addr) (ss:List St) (sl:List StA) (hl:sl.length=ss.length) (hr:RdF F 26 w A ss.length (zipC stC ss sl))
     (he:∀(i:Nat) (s:St) (p:StA),ss[i]? = some s→sl[i]? = some p→ArgsIn F w p.a.1 s.ea.args∧ArgsIn F w p.b.1 s.eb.args∧ArgsIn F w p.c.1 s.ec.args∧RfsIn F w p.r.1 s.routes)
     (hy:∀(i:Nat) (s:St) (p:StA),ss[i]? = some s→sl[i]? = some p→BodyIn F w p.y.1 s.body)
     (hz:∀(i:Nat) (s:St) (p:StA),ss[i]? = some s→sl[i]? = some p→BodyIn F w p.z.1 s.els):BodyIn F w A ss
theorem BodyIn.keep{F G:Nat→Prop}{w w':World}(hk:Keep F G w w'){A:Option Addr}{ss:List St}(h:BodyIn F w A ss):BodyIn G w' A ss:=by
 induction h with
 | mk A ss sl hl hr he hy hz ihy ihz =>
  exact .mk A ss sl hl (hr.keep hk) (fun i s p h1 h2=>by
   obtain⟨x1,x2,x3,x4⟩:=he i s p h1 h2
   exact⟨x1.keep hk,x2.keep hk,x3.keep hk,x4.keep hk⟩) ihy ihz
theorem BodyIn.nil(F:Nat→Prop)(w:World)(A:Option Addr):BodyIn F w A []:=.mk A [] [] rfl (RdF.nil F 26 w A) (fun _ _ _ h=>(by simp at h)) (fun _ _ _ h=>(by simp at h)) fun _ _ _ h=>(by simp at h)
def StIn(F:Nat→Prop)(w:World)(s:St)(p:StA):Prop:=(ArgsIn F w p.a.1 s.ea.args∧ArgsIn F w p.b.1 s.eb.args∧ArgsIn F w p.c.1 s.ec.args∧RfsIn F w p.r.1 s.routes)∧BodyIn F w p.y.1 s.body∧BodyIn F w p.z.1 s.els
theorem StIn.keep{F G:Nat→Prop}{w w':World}(hk:Keep F G w w'){s:St}{p:StA}(h:StIn F w s p):StIn G w' s p:=by
 obtain⟨⟨x1,x2,x3,x4⟩,x5,x6⟩:=h;exact⟨⟨x1.keep hk,x2.keep hk,x3.keep hk,x4.keep hk⟩,x5.keep hk,x6.keep hk⟩
def plC(s:Pl)(p:(Option Addr × Nat) × (Option Addr × Nat)):List Value:=[.string s.node.name,.int .i64 s.node.at_]++(exC s.delay p.1++exC s.flags p.2)
def PlIn(F:Nat→Prop)(w:World)(s:Pl)(p:(Option Addr × Nat) × (Option Addr × Nat)):Prop:=ArgsIn F w p.1.1 s.delay.args∧ArgsIn F w p.2.1 s.flags.args
def PlsIn(F:Nat→Prop)(w:World)(A:Option Addr)(l:List Pl):Prop:=∃sl:List ((Option Addr × Nat) × (Option Addr × Nat)),sl.length=l.length∧RdF F 12 w A l.length (zipC plC l sl)∧∀(i:Nat) (s:Pl) (p:(Option Addr × Nat) × (Option Addr × Nat)),l[i]? = some s→sl[i]? = some p→PlIn F w s p
theorem PlIn.keep{F G:Nat→Prop}{w w':World}(hk:Keep F G w w'){s:Pl}{p:(Option Addr × Nat) × (Option Addr × Nat)}(h:PlIn F w s p):PlIn G w' s p:=⟨h.1.keep hk,h.2.keep hk⟩
theorem PlsIn.keep{F G:Nat→Prop}{w w':World}(hk:Keep F G w w'){A:Option Addr}{l:List Pl}(h:PlsIn F w A l):PlsIn G w' A l:=by
 obtain⟨sl,h1,h2,h3⟩:=h;exact⟨sl,h1,h2.keep hk,fun i s p h4 h5=>(h3 i s p h4 h5).keep hk⟩
theorem PlsIn.nil(F:Nat→Prop)(w:World)(A:Option Addr):PlsIn F w A []:=⟨[],rfl,RdF.nil F 12 w A,fun _ _ _ h=>(by simp at h)⟩
def dcC(s:Dc)(p:(Option Addr × Nat) × (Option Addr × Nat)):List Value:=[.string s.kind,.string s.name.name,.int .i64 s.name.at_]++(exC s.value p.1++[.slice p.2.1 s.places.length p.2.2])
def DcIn(F:Nat→Prop)(w:World)(s:Dc)(p:(Option Addr × Nat) × (Option Addr × Nat)):Prop:=ArgsIn F w p.1.1 s.value.args∧PlsIn F w p.2.1 s.places
def DcsIn(F:Nat→Prop)(w:World)(A:Option Addr)(l:List Dc):Prop:=∃sl:List ((Option Addr × Nat) × (Option Addr × Nat)),sl.length=l.length∧RdF F 9 w A l.length (zipC dcC l sl)∧∀(i:Nat) (s:Dc) (p:(Option Addr × Nat) × (Option Addr × Nat)),l[i]? = some s→sl[i]? = some p→DcIn F w s p
theorem DcIn.keep{F G:Nat→Prop}{w w':World}(hk:Keep F G w w'){s:Dc}{p:(Option Addr × Nat) × (Option Addr × Nat)}(h:DcIn F w s p):DcIn G w' s p:=⟨h.1.keep hk,h.2.keep hk⟩
theorem DcsIn.keep{F G:Nat→Prop}{w w':World}(hk:Keep F G w w'){A:Option Addr}{l:List Dc}(h:DcsIn F w A l):DcsIn G w' A l:=by
 obtain⟨sl,h1,h2,h3⟩:=h;exact⟨sl,h1,h2.keep hk,fun i s p h4 h5=>(h3 i s p h4 h5).keep hk⟩
theorem DcsIn.nil(F:Nat→Prop)(w:World)(A:Option Addr):DcsIn F w A []:=⟨[],rfl,RdF.nil F 9 w A,fun _ _ _ h=>(by simp at h)⟩
structure Wr(L:List Nat)(w w':World):Prop where
 os:w'.os=w.os
 tape:w'.tape=w.tape
 output:w'.output=w.output
 size:w.heap.size≤w'.heap.size
 block:∀k,k<w.heap.size→k ∉ L→w'.heap[k]? = w.heap[k]?
theorem Wr.refl(L:List Nat)(w:World):Wr L w w:=⟨rfl,rfl,rfl,lr,fun _ _ _=>rfl⟩
theorem Wr.trans{L:List Nat}{w w1 w2:World}(h:Wr L w w1)(k:Wr L w1 w2):Wr L w w2 :=
 ⟨k.os.trans h.os,k.tape.trans h.tape,k.output.trans h.output,Nat.le_trans h.size k.size,fun i hi hL=>(k.block i (Nat.lt_of_lt_of_le hi h.size) hL).trans (h.block i hi hL)⟩
theorem Wr.of_below{L:List Nat}{w w1:World}(h:Below w.heap.size w w1):Wr L w w1:=⟨h.os,h.tape,h.output,h.size,fun k hk _=>h.block k hk⟩
theorem Wr.of_wrote{L:List Nat}{g:Nat}{w w1:World}(h:Wrote g w w1)(hg:g∈L):Wr L w w1:=⟨h.os,h.tape,h.output,h.size,fun k hk hL=>h.block k hk fun e=>hL (by injection e with e;rw[e];exact hg)⟩
theorem Wr.below{L:List Nat}{B:Nat}{w0 w w1:World}(h:Wr L w w1)(hb:Below B w0 w)(hL:∀g∈L,B≤g)(hB:B≤w.heap.size):Below B w0 w1 :=
 ⟨h.os.trans hb.os,h.tape.trans hb.tape,h.output.trans hb.output,Nat.le_trans hb.size h.size,fun k hk=>(h.block k (Nat.lt_of_lt_of_le hk hB) fun hm=>absurd (hL k hm) om).trans (hb.block k hk)⟩
theorem Wr.keep{L:List Nat}{w w':World}(h:Wr L w w')(F G:Nat→Prop)(hF:∀k,F k→k<w.heap.size→k ∉ L)(hG:∀k,F k→k<w.heap.size→G k):Keep F G w w':=⟨h.size,fun k hf hk=>h.block k hk (hF k hf hk),hG⟩
section
def paC(gs:Nat)(s:PS):List Value:=[.pointer (some ⟨gs,0,none⟩),.int .i64 s.fe,.int .i64 s.fa,.int .i64 s.bo,.int .i64 s.pa]
structure Cx(gp gs:Nat)(A:Option Addr)(n:Nat)(ts:List Lx.Tok):Prop where
 ne:gp≠gs
 tk:∀ad:Addr,A=some ad→ad.block≠gp∧ad.block≠gs
 hn:ts.length=n
 hn8:n≤100000
 ends:Ends ts
structure PSt(gp gs:Nat)(A:Option Addr)(n c:Nat)(ts:List Lx.Tok)(s:PS)(w:World):Prop where
 par:Blk w gp 60 (paC gs s)
 stm:Stm gs A n c s.i ts w
 z:s.ok=true→s.fe=0∧s.fa=0
 lt:s.i<ts.length
section
variable{gp gs:Nat}{A:Option Addr}{n c:Nat}{ts:List Lx.Tok}{s:PS}{w w':World}
theorem PSt.below(h:PSt gp gs A n c ts s w)(hb:Below w.heap.size w w'):PSt gp gs A n c ts s w':=⟨h.par.below hb h.par.lt,h.stm.below hb,h.z,h.lt⟩
theorem PSt.alloc(h:PSt gp gs A n c ts s w)(o:Obj):PSt gp gs A n c ts s (w.alloc o):=h.below ((Below.refl _ _).alloc lr o)
theorem RdS.set_far{sz:Nat}{xs:List Value}(h:RdS sz w A n xs){p:Addr}(hp:∀ad:Addr,A=some ad→ad.block≠p.block)(v:Value):RdS sz (w.setCell p v) A n xs:=by
 refine⟨h.1,fun hn=>?_⟩;obtain⟨b,off,rfl,hb,hc⟩:=h.2 hn;refine⟨b,off,rfl,by simpa[World.setCell] using hb,fun j u hu=>?_⟩;exact(World.cell?_of_block (a:=⟨b,off+j,none⟩) (Below.heap_setCell w p v b (fun e=>hp _ rfl e))).trans (hc j u hu)
theorem Stm.far{g:Nat}{i:Nat}(h:Stm g A n c i ts w){p:Addr}(hg:g≠p.block)(hA:∀ad:Addr,A=some ad→ad.block≠p.block)(v:Value):Stm g A n c i ts (w.setCell p v):=⟨h.1.far hg v,RdS.set_far h.2 hA v⟩
theorem Wr.setCell{L:List Nat}(h:Wr L w w'){p:Addr}(hp:p.block∈L)(v:Value):Wr L w (w'.setCell p v) :=
 ⟨h.os,h.tape,h.output,by have:=h.size;simpa[World.setCell] using this,fun k hk hL=>(Below.heap_setCell w' p v k (fun e=>hL (e ▸ hp))).trans (h.block k hk hL)⟩
theorem Wr.setNew{L:List Nat}(h:Wr L w w'){p:Addr}(hp:w.heap.size≤p.block)(v:Value):Wr L w (w'.setCell p v) :=
 ⟨h.os,h.tape,h.output,by have:=h.size;simpa[World.setCell] using this,fun k hk hL=>(Below.heap_setCell w' p v k om).trans (h.block k hk hL)⟩
theorem Wr.alloc{L:List Nat}(h:Wr L w w')(o:Obj):Wr L w (w'.alloc o):=h.trans (Wr.of_below ((Below.refl _ _).alloc lr o))
theorem Wr.mono{L M:List Nat}(h:Wr L w w')(hM:∀g∈L,g∈M):Wr M w w':=⟨h.os,h.tape,h.output,h.size,fun k hk hk2=>h.block k hk fun h3=>hk2 (hM k h3)⟩
theorem RdS.wrote'{sz g:Nat}{xs:List Value}(h:RdS sz w A n xs)(hw:Wrote g w w')(hb:∀ad:Addr,A=some ad→ad.block≠g):RdS sz w' A n xs :=
 ⟨h.1,fun hn=>by
  obtain⟨b,off,rfl,hbl,hc⟩:=h.2 hn
  exact⟨b,off,rfl,Nat.lt_of_lt_of_le hbl hw.size,fun j u hu=>(World.grownBy.cell_far hw ⟨b,off+j,none⟩ hbl (fun e=>hb _ rfl (by injection e))).trans (hc j u hu)⟩⟩
theorem ok_c(h:Blk w gp 60 (paC gs s)):Calls Tryz.prog 22 #[.pointer (some ⟨gp,0,none⟩)] w fun e w'=>e=.returned (.bool s.ok)∧w=w':=by
 have c1:w.cell? ⟨gp,1,none⟩=some (.int .i64 s.fe):=h.cell 1
 go_enter Tryz.func22, Tryz.ntmps22
 go_wp2;go_ret;exact⟨rfl,rfl⟩
theorem fld0(a b c d:Value)(W:World):(Instr.field 72 (.agg #[a,b,c,d]) 0).run Tryz.prog W=.ok a W:=by kernel_rfl
theorem fld1(a b c d:Value)(W:World):(Instr.field 72 (.agg #[a,b,c,d]) 1).run Tryz.prog W=.ok b W:=by kernel_rfl
theorem zh5(cx:Cx gp gs A n ts)(h:PSt gp gs A n c ts s w)(k:Nat):Calls Tryz.prog 23 #[.pointer (some ⟨gp,0,none⟩),.int .i64 (k:Int)] w fun e w'=>e=.returned (.bool (kindIs ts k s))∧Below w.heap.size w w':=by
 have HO:=qh (fun w (h:Blk w gp 60 (paC gs s))=>ok_c h);have HP:=qh (fun W (h:Stm gs A n c s.i ts W)=>zd5 gs A n c s.i ts W h.1 h.2 cx.hn cx.hn8);have HH:=qh h;have c0:w.cell? ⟨gp,0,none⟩=some (.pointer (some ⟨gs,0,none⟩)):=h.par.cell 0;have HK:Hid (kindIs ts k s=(s.ok && decide ((tokAt ts s.i).kind=k))):=rfl;clear h;generalize tokAt ts s.i=t at *
 unfold tokCells at HP
 have hf:=fld0 (.int .i64 t.kind) (.string (bytesOf t.text)) (.int .i64 t.num) (.int .i64 t.at_);generalize s.ok=b at *
 cases b
 · go_enter Tryz.func23, Tryz.ntmps23
   go_wp2_with (go_at_call 22;(refine(HO.out _ (by exact HH.out.par)).mono ?_);rintro e w1 ⟨rfl,rfl⟩)
   go_ret;exact⟨by rw[HK.out];rfl,Below.refl _ _⟩
 · go_enter Tryz.func23, Tryz.ntmps23
   go_wp2_with (first
    | (go_at_call 22;(refine(HO.out _ (by exact HH.out.par)).mono ?_);rintro e w1 ⟨rfl,rfl⟩)
    | (go_at_call 53;(refine(HP.out _ (by exact HH.out.stm)).mono ?_);rintro e w2 ⟨rfl,hB2⟩))
   go_ret;refine⟨zcb (a:=((t.kind:Int) == (k:Int))) ?_,hB2⟩;rw[HK.out,Bool.true_and,Bool.eq_iff_iff]
   simp
   omega
theorem zcj(cx:Cx gp gs A n ts)(h:PSt gp gs A n c ts s w)(l:List ByteArray)(A1:Option Addr)(n1 c1:Nat)(hl:Rd w A1 n1 (strs l))(hn1:n1≤140737488355328):Calls Tryz.prog 20 #[.pointer (some ⟨gp,0,none⟩),.slice A1 n1 c1] w fun e w'=>e=.returned (.bool (sees ts l s))∧Below w.heap.size w w':=by
 have HO:=qh (fun w (h:Blk w gp 60 (paC gs s))=>ok_c h);have HI:=qh (fun W (h:Stm gs A n c s.i ts W) (h2:Rd W A1 n1 (strs l))=>zn1 gs A n c s.i ts (tokAt ts s.i) A1 n1 c1 l W h.1 h.2 cx.hn cx.hn8 rfl h2 hn1);have HH:=qh h;have HL:=qh hl;have c0:w.cell? ⟨gp,0,none⟩=some (.pointer (some ⟨gs,0,none⟩)):=h.par.cell 0;have HK:Hid (sees ts l s=(s.ok && isOf (tokAt ts s.i) l)):=rfl;clear h hl;generalize isOf (tokAt ts s.i) l=t at *;generalize s.ok=b at *
 cases b
 · go_enter Tryz.func20, Tryz.ntmps20
   go_wp2_with (go_at_call 22;(refine(HO.out _ (by exact HH.out.par)).mono ?_);rintro e w1 ⟨rfl,rfl⟩)
   go_ret;exact⟨by rw[HK.out];rfl,Below.refl _ _⟩
 · go_enter Tryz.func20, Tryz.ntmps20
   go_wp2_with (first
    | (go_at_call 22;(refine(HO.out _ (by exact HH.out.par)).mono ?_);rintro e w1 ⟨rfl,rfl⟩)
    | (go_at_call 46;(refine(HI.out _ (by exact HH.out.stm) (by exact HL.out)).mono ?_);rintro e w2 ⟨rfl,hB2⟩))
   go_ret;exact⟨by rw[HK.out];rfl,hB2⟩
theorem zh9(cx:Cx gp gs A n ts)(h:PSt gp gs A n c ts s w)(e0:Int)(he:e0≠0):Calls Tryz.prog 54 #[.pointer (some ⟨gp,0,none⟩),.int .i64 e0] w fun e w'=>e=.returned (.tuple #[])∧PSt gp gs A n c ts (failP ts e0 s) w'∧Wr [gp] w w':=by
 have HO:=qh (fun w (h:Blk w gp 60 (paC gs s))=>ok_c h);have HP:=qh (fun W (h:Stm gs A n c s.i ts W)=>zd5 gs A n c s.i ts W h.1 h.2 cx.hn cx.hn8);have HH:=qh h;have c0:w.cell? ⟨gp,0,none⟩=some (.pointer (some ⟨gs,0,none⟩)):=h.par.cell 0
 cases hb:s.ok
 · have HF:Hid (failP ts e0 s=s):=(by show _=_;unfold failP;rw[hb];rfl)
   rw[hb]at HO;clear h hb
   go_enter Tryz.func54, Tryz.ntmps54
   go_wp2_with (go_at_call 22;(refine(HO.out _ (by exact HH.out.par)).mono ?_);rintro e w1 ⟨rfl,rfl⟩)
   refine bodyPost_end (results_none rfl _ _ _) rfl ⟨rfl,?_,Wr.refl _ _⟩;rw[HF.out];exact HH.out
 · have HF:Hid (failP ts e0 s = { s with fe:=e0,fa:=((tokAt ts s.i).at_:Int) }):=(by show _=_;unfold failP;rw[hb];rfl)
   rw[hb]at HO;clear h hb;have hf:=fld3 (.int .i64 (tokAt ts s.i).kind) (.string (bytesOf (tokAt ts s.i).text)) (.int .i64 (tokAt ts s.i).num) (.int .i64 (tokAt ts s.i).at_);generalize tokAt ts s.i=t at *
   unfold tokCells at HP
   go_enter Tryz.func54, Tryz.ntmps54
   go_wp2_with (first
    | (go_at_call 22;(refine(HO.out _ (by exact HH.out.par)).mono ?_);rintro e w1 ⟨rfl,rfl⟩)
    | (go_at_call 53;(refine(HP.out _ (by exact HH.out.stm)).mono ?_);rintro e w2 ⟨rfl,hB2⟩;have H2:=qh (HH.out.below hB2);have c1:w2.cell? ⟨gp,1,none⟩=some (.int .i64 s.fe):=H2.out.par.cell 1;have c2:w2.cell? ⟨gp,2,none⟩=some (.int .i64 s.fa):=H2.out.par.cell 2;have f1:=H2.out.par.frozen 1;have f2:=H2.out.par.frozen 2))
   have h3:=(H2.out.par.set_ 1 (.int .i64 e0)).set_ 2 (.int .i64 (t.at_:Int));refine bodyPost_end (results_none rfl _ _ _) rfl ⟨rfl,?_,((Wr.of_below hB2).setCell sy _).setCell sy _⟩;rw[HF.out];refine⟨h3,Stm.far (Stm.far H2.out.stm cx.ne.symm (fun ad e=>(cx.tk ad e).1) _) cx.ne.symm (fun ad e=>(cx.tk ad e).1) _,fun h=>?_,H2.out.lt⟩
   exfalso
   have:(e0 == 0)=true:=h
   simp at this
   exact he this
theorem zb4(cx:Cx gp gs A n ts)(h:PSt gp gs A n c ts s w)(T:ByteArray):Calls Tryz.prog 49 #[.pointer (some ⟨gp,0,none⟩),.string T] w fun e w'=>e=.returned (.tuple #[])∧PSt gp gs A n c ts (takeP ts T s) w'∧Wr [gp,gs] w w':=by
 have HO:=qh (fun w (h:Blk w gp 60 (paC gs s))=>ok_c h);have HH:=qh h;have c0:w.cell? ⟨gp,0,none⟩=some (.pointer (some ⟨gs,0,none⟩)):=h.par.cell 0
 cases hb:s.ok
 · have HF:Hid (takeP ts T s=s):=(by show _=_;unfold takeP;rw[hb];rfl)
   rw[hb]at HO;clear h hb
   go_enter Tryz.func49, Tryz.ntmps49
   go_wp2_with (go_at_call 22;(refine(HO.out _ (by exact HH.out.par)).mono ?_);rintro e w1 ⟨rfl,rfl⟩)
   refine bodyPost_end (results_none rfl _ _ _) rfl ⟨rfl,?_,Wr.refl _ _⟩;rw[HF.out];exact HH.out
 · have hz:=h.z hb
   cases hi:isOf (tokAt ts s.i) [T]
   · have HF:Hid (takeP ts T s = { s with fe:=9,fa:=((tokAt ts s.i).at_:Int) }):=(by show _=_;unfold takeP;rw[hb,show isOf (pk ts s) [T]=false from hi];rfl)
     have HT:=qh (fun W (h:Stm gs A n c s.i ts W)=>zrb gs A n c s.i ts (tokAt ts s.i) T W h cx.hn cx.hn8 rfl hi);rw[hb]at HO;clear h hb hi;generalize tokAt ts s.i=t at *
     go_enter Tryz.func49, Tryz.ntmps49
     go_wp2_with (first
      | (go_at_call 22;(refine(HO.out _ (by exact HH.out.par)).mono ?_);rintro e w1 ⟨rfl,rfl⟩)
      | (go_at_call 82;(refine(HT.out _ (by exact HH.out.stm)).mono ?_);rintro e w2 ⟨rfl,hB2⟩;have H2:=qh (HH.out.below hB2);have c1:w2.cell? ⟨gp,1,none⟩=some (.int .i64 s.fe):=H2.out.par.cell 1;have c2:w2.cell? ⟨gp,2,none⟩=some (.int .i64 s.fa):=H2.out.par.cell 2;have f1:=H2.out.par.frozen 1;have f2:=H2.out.par.frozen 2))
     have h3:=(H2.out.par.set_ 1 (.int .i64 9)).set_ 2 (.int .i64 (t.at_:Int));refine bodyPost_end (results_none rfl _ _ _) rfl ⟨rfl,?_,((Wr.of_below hB2).setCell sy _).setCell sy _⟩;rw[HF.out];exact⟨h3,Stm.far (Stm.far H2.out.stm cx.ne.symm (fun ad e=>(cx.tk ad e).1) _) cx.ne.symm (fun ad e=>(cx.tk ad e).1) _,fun h=>(by cases h),H2.out.lt⟩
   · have HF:Hid (takeP ts T s=nxt s):=(by show _=_;unfold takeP;rw[hb,show isOf (pk ts s) [T]=true from hi];rfl)
     have hlt:s.i+1<ts.length:=zi7 cx.ends (s:=s) hi;have HT:=qh (fun W (h:Stm gs A n c s.i ts W)=>zoo gs A n c s.i ts (tokAt ts s.i) T W h cx.hn cx.hn8 (by have:=cx.hn;have:=cx.hn8;omega) rfl hi);have HLT:=qh hlt;have HOK:=qh hb;rw[hb]at HO;clear h hb hi hlt
     go_enter Tryz.func49, Tryz.ntmps49
     go_wp2_with (first
      | (go_at_call 22;(refine(HO.out _ (by exact HH.out.par)).mono ?_);rintro e w1 ⟨rfl,rfl⟩)
      | (go_at_call 82;(refine(HT.out _ (by exact HH.out.stm)).mono ?_);rintro e w2 ⟨rfl,hb2,hW2⟩;have H2:=qh (HH.out.par.wrote hW2 cx.ne);have HR2:Hid (RdS 4 w2 A n (toksCells ts)):=RdS.wrote' HH.out.stm.2 hW2 (fun ad e=>(cx.tk ad e).2);have c1:w2.cell? ⟨gp,1,none⟩=some (.int .i64 s.fe):=H2.out.cell 1;have c2:w2.cell? ⟨gp,2,none⟩=some (.int .i64 s.fa):=H2.out.cell 2;have f1:=H2.out.frozen 1;have f2:=H2.out.frozen 2;have HB2:=qh hb2;clear hb2))
     have h3:=(H2.out.set_ 1 (.int .i64 0)).set_ 2 (.int .i64 0);refine bodyPost_end (results_none rfl _ _ _) rfl ⟨rfl,?_,((Wr.of_wrote hW2 sy).setCell sy _).setCell sy _⟩;rw[HF.out];have h4:Stm gs A n c (s.i+1) ts w2:=⟨HB2.out,HR2.out⟩;refine⟨?_,Stm.far (Stm.far h4 cx.ne.symm (fun ad e=>(cx.tk ad e).1) _) cx.ne.symm (fun ad e=>(cx.tk ad e).1) _,fun _=>hz,HLT.out⟩
     have h5:paC gs (nxt s)=[.pointer (some ⟨gs,0,none⟩),.int .i64 0,.int .i64 0,.int .i64 s.bo,.int .i64 s.pa]:=by
      simp[paC,nxt,hz.1,hz.2]
     rw[h5];exact h3
end
end
section
section
variable{gp gs:Nat}{A:Option Addr}{n c:Nat}{ts:List Lx.Tok}{s:PS}{w w':World}
theorem PSt.wrote(cx:Cx gp gs A n ts)(h:PSt gp gs A n c ts s w){i:Nat}(hw:Wrote gs w w')(hb:Blk w' gs 100 [.slice A n c,.int .i64 (i:Int)])(hi:i<ts.length):PSt gp gs A n c ts { s with i:=i } w' :=
 ⟨h.par.wrote hw cx.ne,⟨hb,RdS.wrote' h.stm.2 hw (fun ad e=>(cx.tk ad e).2)⟩,h.z,hi⟩
def PLo(gp gs:Nat)(A:Option Addr)(B:Nat):Prop:=gp<B∧gs<B∧∀ad:Addr,A=some ad→ad.block<B
theorem PSt.lo(cx:Cx gp gs A n ts)(h:PSt gp gs A n c ts s w):PLo gp gs A w.heap.size:=by
 refine⟨h.par.lt,h.stm.1.lt,fun ad e=>?_⟩;obtain⟨b,off,e2,hb,_⟩:=h.stm.2.2 (by have:=h.lt;have:=cx.hn;omega);rw[e]at e2
 injection e2 with e2
 subst e2;exact hb
theorem PSt.setNew{B:Nat}(h:PSt gp gs A n c ts s w)(hl:PLo gp gs A B){p:Addr}(hp:B≤p.block)(v:Value):PSt gp gs A n c ts s (w.setCell p v) :=
 ⟨h.par.far (by have:=hl.1;omega) v,Stm.far h.stm (by have:=hl.2.1;omega) (fun ad e=>by have:=hl.2.2 ad e;omega) v,h.z,h.lt⟩
theorem Blk.wr{g:Nat}{t:TypeId}{cs:List Value}{B:Nat}(h:Blk w g t cs)(hw:Wr [gp,gs] w w')(hl:PLo gp gs A B)(hg:B≤g):Blk w' g t cs:=(hw.block g h.lt (by have h1:=hl.1;have h2:=hl.2.1;simp only[List.mem_cons,List.not_mem_nil,or_false];omega)).trans h
theorem zcx(cx:Cx gp gs A n ts)(h:PSt gp gs A n c ts s w)(hk:(tokAt ts s.i).kind≠6):Calls Tryz.prog 47 #[.pointer (some ⟨gs,0,none⟩)] w fun e w'=>e=.returned (.agg (tokCells (tokAt ts s.i)).toArray)∧PSt gp gs A n c ts (nxt s) w'∧Wr [gp,gs] w w':=by
 have h1:=zki gs A n c s.i ts (tokAt ts s.i) w h.stm.1 h.stm.2 cx.hn cx.hn8 (by have:=h.lt;have:=cx.hn;have:=cx.hn8;omega) rfl;rw[if_neg hk]at h1;refine h1.mono ?_;rintro e w' ⟨rfl,hb,hW⟩;exact⟨rfl,h.wrote cx hW hb (cx.ends s.i hk),Wr.of_wrote hW sy⟩
def alsoP(ts:List Lx.Tok)(T:ByteArray)(s:PS):PS:=if sees ts [T] s then nxt s else s
theorem zl8{T:ByteArray}(h:sees ts [T] s=true):takeP ts T s=nxt s:=by
 unfold sees at h
 simp only[Bool.and_eq_true]at h
 unfold takeP
 rw[h.1,h.2]
 rfl
theorem zdp(cx:Cx gp gs A n ts)(h:PSt gp gs A n c ts s w)(T:ByteArray):Calls Tryz.prog 52 #[.pointer (some ⟨gp,0,none⟩),.string T] w fun e w'=>e=.returned (.bool (sees ts [T] s))∧PSt gp gs A n c ts (alsoP ts T s) w'∧Wr [gp,gs] w w':=by
 have HS:=qh (fun W A1 (h:PSt gp gs A n c ts s W) (hl:Rd W A1 1 (strs [T]))=>zcj cx h [T] A1 1 1 hl om);have HT:=qh (fun W (h:PSt gp gs A n c ts s W)=>zb4 cx h T);have HH:=qh (h.alloc (.cells #[.string T] 9));have HE:Hid (Wr [gp,gs] w (w.alloc (.cells #[.string T] 9))):=(Wr.refl _ _).alloc _
 cases hs:sees ts [T] s
 · have HA:Hid (alsoP ts T s=s):=(by show _=_;unfold alsoP;rw[hs];rfl)
   rw[hs]at HS;clear h hs
   go_enter Tryz.func52, Tryz.ntmps52
   go_wp2_with (go_at_call 20;(refine(HS.out _ _ (by exact HH.out) (by exact Rd.new1' rfl)).mono ?_);rintro e w2 ⟨rfl,hB2⟩)
   go_ret;exact⟨rfl,by rw[HA.out];exact HH.out.below hB2,HE.out.trans (Wr.of_below hB2)⟩
 · have HA:Hid (alsoP ts T s=nxt s):=(by show _=_;unfold alsoP;rw[hs];rfl)
   have hk:(nxt s).ok=true:=(zaj hs:s.ok=true);rw[zl8 hs]at HT;rw[hs]at HS;have HO:=qh (fun w (h:Blk w gp 60 (paC gs (nxt s)))=>hk ▸ ok_c h);clear h hs hk
   go_enter Tryz.func52, Tryz.ntmps52
   go_wp2_with (first
    | (go_at_call 20;(refine(HS.out _ _ (by exact HH.out) (by exact Rd.new1' rfl)).mono ?_);rintro e w2 ⟨rfl,hB2⟩;have H2:=qh (HH.out.below hB2);have HE2:=qh (HE.out.trans (Wr.of_below hB2));clear hB2)
    | (go_at_call 49;(refine(HT.out _ (by exact H2.out)).mono ?_);rintro e w3 ⟨rfl,h3,hW3⟩;have H3:=qh h3;have HE3:=qh (HE2.out.trans hW3);clear h3 hW3)
    | (go_at_call 22;(refine(HO.out _ (by exact H3.out.par)).mono ?_);rintro e w4 ⟨rfl,rfl⟩))
   go_ret;exact⟨rfl,by rw[HA.out];exact H3.out,HE3.out⟩
theorem hdRf:(Tryz.prog.info? 36).map (·.size)=some 2:=by kernel_rfl
theorem ref_c(cx:Cx gp gs A n ts)(h:PSt gp gs A n c ts s w):Calls Tryz.prog 48 #[.pointer (some ⟨gp,0,none⟩)] w fun e w'=>e=.returned (.agg (rfC (refP ts s).1).toArray)∧PSt gp gs A n c ts (refP ts s).2 w'∧Wr [gp,gs] w w':=by
 have HKI:=qh (fun W (h:PSt gp gs A n c ts s W)=>zh5 cx h 1);have HFA:=qh (fun W (h:PSt gp gs A n c ts s W)=>zh9 cx h 9 (by decide));have HH:=qh (h.alloc (.cells #[.string { data:=#[] },.int .i64 0] 36));have HE:Hid (Wr [gp,gs] w (w.alloc (.cells #[.string { data:=#[] },.int .i64 0] 36))):=(Wr.refl _ _).alloc _;have HB:Hid (Blk (w.alloc (.cells #[.string { data:=#[] },.int .i64 0] 36)) w.heap.size 36 [.string { data:=#[] },.int .i64 0]):=Blk.new' rfl rfl;have HLO:=qh (h.lo cx);have hpl:=h.par.lt;have hsl:=h.stm.1.lt;have c0:∀W,Below (w.alloc (.cells #[.string { data:=#[] },.int .i64 0] 36)).heap.size (w.alloc (.cells #[.string { data:=#[] },.int .i64 0] 36)) W→W.cell? ⟨gp,0,none⟩=some (.pointer (some ⟨gs,0,none⟩)):=fun W hW=>(HH.out.below hW).par.cell 0
 have HC0:=qh c0;clear c0
 cases hk:kindIs ts 1 s
 · have HR:Hid (refP ts s=(zR,failP ts 9 s)):=(by show _=_;unfold refP;rw[hk];rfl)
   rw[HR.out];rw[hk]at HKI;clear h hk
   go_enter Tryz.func48, Tryz.ntmps48
   go_wp2_with (first
    | (go_at_call 23;(refine(HKI.out _ (by exact HH.out)).mono ?_);rintro e w2 ⟨rfl,hB2⟩;have H2:=qh (HH.out.below hB2);have HE2:=qh (HE.out.trans (Wr.of_below hB2));have HB2:=qbl HB hB2;clear hB2)
    | (go_at_call 54;(refine(HFA.out _ (by exact H2.out)).mono ?_);rintro e w3 ⟨rfl,h3,hW3⟩;have H3:=qh h3;have HE3:=qh (HE2.out.trans (hW3.mono sy));have HB3:Hid (Blk w3 w.heap.size 36 [.string { data:=#[] },.int .i64 0]):=(hW3.block _ HB2.out.lt (by simp;omega)).trans HB2.out;obtain⟨z0,z1,f0,f1⟩:=HB3.out.two;clear h3 hW3))
   refine bodyPost_ret (res_c rfl _ w.heap.size 36 [.string { data:=#[] },.int .i64 0] rfl (by exact(HB3.out.set_ 0 _).set_ 1 _) _ Tryz.underlying36 rfl hdRf) rfl ⟨rfl,?_,?_⟩
   · exact(H3.out.setNew HLO.out lr _).setNew HLO.out lr _
   · exact(HE3.out.setNew lr _).setNew lr _
 · have hk6:(tokAt ts s.i).kind≠6:=by
    unfold kindIs pk at hk
    simp only[Bool.and_eq_true,decide_eq_true_eq]at hk;omega
   have HNX:=qh (fun W (h:PSt gp gs A n c ts s W)=>zcx cx h hk6);have HR:Hid (refP ts s=(⟨bytesOf (tokAt ts s.i).text,((tokAt ts s.i).at_:Int)⟩,nxt s)):=(by show _=_;unfold refP;rw[hk];rfl);rw[HR.out];rw[hk]at HKI;clear h hk hk6;generalize tokAt ts s.i=t at *
   unfold tokCells at HNX
   go_enter Tryz.func48, Tryz.ntmps48
   go_wp2_with (first
    | (go_at_call 23;(refine(HKI.out _ (by exact HH.out)).mono ?_);rintro e w2 ⟨rfl,hB2⟩;have H2:=qh (HH.out.below hB2);have HE2:=qh (HE.out.trans (Wr.of_below hB2));have HB2:=qbl HB hB2;have c2:=HC0.out _ hB2;clear hB2)
    | (go_at_call 47;(refine(HNX.out _ (by exact H2.out)).mono ?_);rintro e w3 ⟨rfl,h3,hW3⟩;have H3:=qh h3;have HE3:=qh (HE2.out.trans hW3);have HB3:Hid (Blk w3 w.heap.size 36 [.string { data:=#[] },.int .i64 0]):=Blk.wr HB2.out hW3 HLO.out lr;obtain⟨z0,z1,f0,f1⟩:=HB3.out.two;have hz3:w.heap.size<w3.heap.size:=HB3.out.lt;clear h3 hW3))
   refine bodyPost_ret (res_c rfl _ w.heap.size 36 [.string (bytesOf t.text),.int .i64 t.at_] rfl (by exact((HB3.out.set_ 0 _).set_ 1 _).alloc _) _ Tryz.underlying36 rfl hdRf) rfl ⟨rfl,?_,?_⟩
   · exact((H3.out.setNew HLO.out lr _).setNew HLO.out lr _).alloc _
   · exact((HE3.out.setNew lr _).setNew lr _).alloc _
theorem zqt(cx:Cx gp gs A n ts)(h:PSt gp gs A n c ts s w)(hp:0≤s.pa∧s.pa≤100):Calls Tryz.prog 113 #[.pointer (some ⟨gp,0,none⟩)] w fun e w'=>e=.returned (.tuple #[])∧PSt gp gs A n c ts (shutP ts s) w'∧Wr [gp,gs] w w':=by
 have HT:=qh (fun W (h:PSt gp gs A n c ts s W)=>zb4 cx h m_rpar);have HH:=qh h;have hpa:(takeP ts m_rpar s).pa=s.pa:=(zas cx.ends m_rpar s).pa;have HS:Hid (shutP ts s = { takeP ts m_rpar s with pa:=(takeP ts m_rpar s).pa-1 }):=rfl;rw[HS.out];rw[←hpa]at hp;clear h hpa;generalize takeP ts m_rpar s=q at *;obtain⟨hp0,hp1⟩:=hp
 go_enter Tryz.func113, Tryz.ntmps113
 go_wp2_with (go_at_call 49;(refine(HT.out _ (by exact HH.out)).mono ?_);rintro e w2 ⟨rfl,h2,hW2⟩;have H2:=qh h2;have c4:w2.cell? ⟨gp,4,none⟩=some (.int .i64 q.pa):=h2.par.cell 4;have f4:=h2.par.frozen 4;clear h2)
 refine bodyPost_end (results_none rfl _ _ _) rfl ⟨rfl,⟨H2.out.par.set_ 4 _,Stm.far H2.out.stm cx.ne.symm (fun ad e=>(cx.tk ad e).1) _,H2.out.z,H2.out.lt⟩,hW2.setCell sy _⟩
def bndP(ts:List Lx.Tok)(T:ByteArray)(x:Int)(s:PS):PS:=if sees ts [T] s && x == 12 then failP ts 11 s else s
theorem zqv(cx:Cx gp gs A n ts)(h:PSt gp gs A n c ts s w)(hp:0≤s.pa∧s.pa≤100):Calls Tryz.prog 112 #[.pointer (some ⟨gp,0,none⟩)] w fun e w'=>e=.returned (.tuple #[])∧PSt gp gs A n c ts (openP ts s) w'∧Wr [gp,gs] w w':=by
 have HS:=qh (fun W A1 (h:PSt gp gs A n c ts s W) (hl:Rd W A1 1 (strs [m_lpar]))=>zcj cx h [m_lpar] A1 1 1 hl om);have HF:=qh (fun W (h:PSt gp gs A n c ts s W)=>zh9 cx h 11 (by decide));have HT:=qh (fun W s' (h:PSt gp gs A n c ts s' W)=>zb4 cx h m_lpar);have HH:=qh (h.alloc (.cells #[.string m_lpar] 9));have HE:Hid (Wr [gp,gs] w (w.alloc (.cells #[.string m_lpar] 9))):=(Wr.refl _ _).alloc _;have HO:Hid (openP ts s = { takeP ts m_lpar (bndP ts m_lpar s.pa s)with pa:=(takeP ts m_lpar (bndP ts m_lpar s.pa s)).pa+1 }):=rfl;have hb1:Pg ts s (bndP ts m_lpar s.pa s):=by unfold bndP;split;exact zea s (.inr rfl);exact Pg.refl _
 have hpa:(takeP ts m_lpar (bndP ts m_lpar s.pa s)).pa=s.pa:=(hb1.trans (zas cx.ends m_lpar _)).pa;have HPA:=qh hpa;have HBD:Hid (bndP ts m_lpar s.pa s=if sees ts [m_lpar] s && s.pa == 12 then failP ts 11 s else s):=rfl;rw[HO.out];obtain⟨hp0,hp1⟩:=hp;have HCX:=qh cx
 cases hs:sees ts [m_lpar] s
 · have HBD2:Hid (bndP ts m_lpar s.pa s=s):=(by show _=_;rw[HBD.out,hs];rfl)
   rw[HBD2.out]at HPA ⊢;rw[hs]at HS;clear h hs HBD hb1 hpa
   go_enter Tryz.func112, Tryz.ntmps112
   go_wp2_with (first
    | (go_at_call 20;(refine(HS.out _ _ (by exact HH.out) (by exact Rd.new1' rfl)).mono ?_);rintro e w2 ⟨rfl,hB2⟩;have H2:=qh (HH.out.below hB2);have HE2:=qh (HE.out.trans (Wr.of_below hB2));clear hB2)
    | (go_at_call 49;(refine(HT.out _ _ (by exact H2.out)).mono ?_);rintro e w3 ⟨rfl,h3,hW3⟩;have H3:=qh h3;have HE3:=qh (HE2.out.trans hW3);have c4:w3.cell? ⟨gp,4,none⟩=some (.int .i64 (takeP ts m_lpar s).pa):=h3.par.cell 4;have f4:=h3.par.frozen 4;rw[HPA.out]at c4;clear h3 hW3))
   refine bodyPost_end (results_none rfl _ _ _) rfl ⟨rfl,⟨?_,Stm.far H3.out.stm HCX.out.ne.symm (fun ad e=>(HCX.out.tk ad e).1) _,H3.out.z,H3.out.lt⟩,HE3.out.setCell sy _⟩;rw[HPA.out];exact H3.out.par.set_ 4 _
 · cases hx:(s.pa == 12)
   · have HBD2:Hid (bndP ts m_lpar s.pa s=s):=(by show _=_;rw[HBD.out,hs,hx];rfl)
     rw[HBD2.out]at HPA ⊢;rw[hs]at HS;have hne:s.pa≠12:=by simpa using hx
     clear h hs HBD hb1 hpa hx
     go_enter Tryz.func112, Tryz.ntmps112
     go_wp2_with (first
      | (go_at_call 20;(refine(HS.out _ _ (by exact HH.out) (by exact Rd.new1' rfl)).mono ?_);rintro e w2 ⟨rfl,hB2⟩;have H2:=qh (HH.out.below hB2);have HE2:=qh (HE.out.trans (Wr.of_below hB2));have d4:w2.cell? ⟨gp,4,none⟩=some (.int .i64 s.pa):=H2.out.par.cell 4;clear hB2)
      | (go_at_call 49;(refine(HT.out _ _ (by exact H2.out)).mono ?_);rintro e w3 ⟨rfl,h3,hW3⟩;have H3:=qh h3;have HE3:=qh (HE2.out.trans hW3);have c4:w3.cell? ⟨gp,4,none⟩=some (.int .i64 (takeP ts m_lpar s).pa):=h3.par.cell 4;have f4:=h3.par.frozen 4;rw[HPA.out]at c4;clear h3 hW3))
     refine bodyPost_end (results_none rfl _ _ _) rfl ⟨rfl,⟨?_,Stm.far H3.out.stm HCX.out.ne.symm (fun ad e=>(HCX.out.tk ad e).1) _,H3.out.z,H3.out.lt⟩,HE3.out.setCell sy _⟩;rw[HPA.out];exact H3.out.par.set_ 4 _
   · have HBD2:Hid (bndP ts m_lpar s.pa s=failP ts 11 s):=(by show _=_;rw[HBD.out,hs,hx];rfl)
     rw[HBD2.out]at HPA ⊢;rw[hs]at HS;have heq:s.pa=12:=by simpa using hx
     clear h hs HBD hb1 hpa hx
     go_enter Tryz.func112, Tryz.ntmps112
     go_wp2_with (first
      | (go_at_call 20;(refine(HS.out _ _ (by exact HH.out) (by exact Rd.new1' rfl)).mono ?_);rintro e w2 ⟨rfl,hB2⟩;have H2:=qh (HH.out.below hB2);have HE2:=qh (HE.out.trans (Wr.of_below hB2));have d4:w2.cell? ⟨gp,4,none⟩=some (.int .i64 s.pa):=H2.out.par.cell 4;clear hB2)
      | (go_at_call 54;(refine(HF.out _ (by exact H2.out)).mono ?_);rintro e w3 ⟨rfl,h3,hW3⟩;have H3:=qh h3;have HE3:=qh (HE2.out.trans (hW3.mono sy));clear h3 hW3)
      | (go_at_call 49;(refine(HT.out _ _ (by exact H3.out)).mono ?_);rintro e w4 ⟨rfl,h4,hW4⟩;have H4:=qh h4;have HE4:=qh (HE3.out.trans hW4);have c4:w4.cell? ⟨gp,4,none⟩=some (.int .i64 (takeP ts m_lpar (failP ts 11 s)).pa):=h4.par.cell 4;have f4:=h4.par.frozen 4;rw[HPA.out]at c4;clear h4 hW4))
     refine bodyPost_end (results_none rfl _ _ _) rfl ⟨rfl,⟨?_,Stm.far H4.out.stm HCX.out.ne.symm (fun ad e=>(HCX.out.tk ad e).1) _,H4.out.z,H4.out.lt⟩,HE4.out.setCell sy _⟩;rw[HPA.out,heq];exact H4.out.par.set_ 4 _
end
end
section
section
structure RP(s q:RS):Prop where
 bo:q.bo=s.bo
 st:s.bad=true→q.bad=true∧q.pa=s.pa
 pa:q.pa=s.pa∨(q.bad=true∧q.pa=s.pa+1)
 le:s.i≤q.i
theorem RP.refl(s:RS):RP s s:=⟨rfl,fun h=>⟨h,rfl⟩,.inl rfl,lr⟩
theorem RP.trans{s q r:RS}(h:RP s q)(k:RP q r):RP s r:=by
 refine⟨k.bo.trans h.bo,fun hb=>?_,?_,Nat.le_trans h.le k.le⟩
 · obtain⟨h1,h2⟩:=h.st hb
   obtain⟨h3,h4⟩:=k.st h1;exact⟨h3,h4.trans h2⟩
 · rcases h.pa with h1|⟨h1,h2⟩
   · rw[←h1];exact k.pa
   · obtain⟨h3,h4⟩:=k.st h1
     exact .inr ⟨h3,h4.trans h2⟩
variable{ts:List Lx.Tok}
theorem rnx_p{s:RS}: RP s (rnx s):=⟨rfl,fun h=>⟨h,rfl⟩,.inl rfl,Nat.le_succ _⟩
theorem ze3(e:Int)(s:RS):RP s (rstop ts e s):=by
 unfold rstop
 split
 · exact RP.refl s
 · rename_i h
   exact⟨rfl,fun hb=>absurd hb h,.inl rfl,lr⟩
theorem za2(T:ByteArray)(s:RS):RP s (rneed ts T s):=by
 unfold rneed
 split
 · exact rnx_p
 · exact ze3 _ _
theorem zgi(e:Int)(s:RS):(rstop ts e s).bad=true:=by
 unfold rstop
 split
 · assumption
 · rfl
theorem zms{T:ByteArray}{s:RS}(h:rIs ts T s=false):(rneed ts T s).bad=true:=by
 unfold rneed
 rw[if_neg (by rw[h];simp)];exact zgi _ _
theorem zrw{T:ByteArray}{s:RS}(h:s.bad=true):rIs ts T s=false:=by unfold rIs;rw[h];rfl
theorem zbj(s:RS):RP s (rname ts s).2:=by
 unfold rname
 split
 · exact rnx_p
 · exact ze3 _ _
theorem zd1(e:Int)(s:RS):(rstop ts e s).pa=s.pa∧(rstop ts e s).bo=s.bo:=by unfold rstop;split <;> exact⟨rfl,rfl⟩
theorem zb2(T:ByteArray)(s:RS):(rneed ts T s).pa=s.pa∧(rneed ts T s).bo=s.bo:=by
 unfold rneed
 split
 · exact⟨rfl,rfl⟩
 · exact zd1 _ _
theorem zd2(s:RS):(rparen ts s).pa=s.pa+1∧(rparen ts s).bo=s.bo:=by
 unfold rparen
 dsimp only;rw[(zb2 _ _).1,(zb2 _ _).2]
 split
 · rw[(zd1 _ _).1,(zd1 _ _).2];exact⟨rfl,rfl⟩
 · exact⟨rfl,rfl⟩
theorem zhn{s:RS}(h:s.bad=true):(rparen ts s).bad=true:=by
 unfold rparen
 dsimp only;rw[zrw h];exact((za2 m_lpar s).st h).1
theorem zo0(s:RS):(rshut ts s).pa=s.pa-1∧(rshut ts s).bo=s.bo:=by
 unfold rshut
 dsimp only;rw[(zb2 _ _).1,(zb2 _ _).2];exact⟨rfl,rfl⟩
theorem zj2{s:RS}(h:s.bad=true):(rshut ts s).bad=true:=((za2 m_rpar s).st h).1
theorem zho(s:RS):s.i≤(rparen ts s).i:=by
 unfold rparen
 dsimp only
 split
 · exact Nat.le_trans (ze3 (ts:=ts) 11 s).le (za2 m_lpar _).le
 · exact(za2 m_lpar s).le
theorem zo1(s:RS):s.i≤(rshut ts s).i:=(za2 m_rpar s).le
theorem par_p{s q:RS}(h:RP (rparen ts s) q):RP s (rshut ts q):=by
 obtain⟨p1,p2⟩:=zd2 (ts:=ts) s;obtain⟨q1,q2⟩:=zo0 (ts:=ts) q;refine⟨by rw[q2,h.bo,p2],fun hb=>?_,?_,Nat.le_trans (Nat.le_trans (zho s) h.le) (zo1 q)⟩
 · obtain⟨h3,h4⟩:=h.st (zhn hb)
   exact⟨zj2 h3,by rw[q1,h4,p1];omega⟩
 · rcases h.pa with h1|⟨h1,h2⟩
   · left;rw[q1,h1,p1];omega
   · exact .inr ⟨zj2 h1,by rw[q1,h2,p1];omega⟩
section
variable{ex:RS→Ex × RS}(hx:∀s,RP s (ex s).2)
include hx
theorem znb(s:RS):RP s (ratom ts ex s).2:=by
 unfold ratom
 split
 · exact RP.refl s
 · split
   · exact rnx_p
   · split
     · exact rnx_p
     · split
       · rename_i h0 _ _ hb
         obtain⟨p1,p2⟩:=zd2 (ts:=ts) s;exact⟨p2,fun h=>absurd h h0,.inr ⟨hb,p1⟩,zho s⟩
       · exact par_p (hx _)
theorem zmx:∀(k:Nat) (l:List Ex) (s:RS),RP s (rjoinLoop ts ex k l s).2
 | 0,_,s=>RP.refl s
 | k+1,l,s=>by
  rw[rjoinLoop]
  split
  · exact RP.refl s
  · split
    · exact(hx s).trans (rnx_p.trans (zmx k _ _))
    · exact hx s
theorem ze5(s:RS):RP s (rfactor ts ex s).2:=by
 unfold rfactor
 split
 · exact rnx_p
 · split
   · exact rnx_p.trans (par_p (zmx hx _ _ _))
   · exact znb hx s
theorem zj1:∀(k:Nat) (e:Ex) (s:RS),RP s (rtermLoop ts ex k e s).2
 | 0,_,s=>RP.refl s
 | k+1,e,s=>by
  rw[rtermLoop]
  split
  · exact(rnx_p.trans (ze5 hx _)).trans (zj1 k _ _)
  · exact RP.refl s
theorem zip(s:RS):RP s (rterm ts ex s).2:=(ze5 hx s).trans (zj1 hx _ _ _)
theorem zj7:∀(k:Nat) (e:Ex) (s:RS),RP s (rexprLoop ts ex k e s).2
 | 0,_,s=>RP.refl s
 | k+1,e,s=>by
  rw[rexprLoop]
  split
  · exact(rnx_p.trans (zip hx _)).trans (zj7 k _ _)
  · exact RP.refl s
theorem zpa(s:RS):RP s (rexprG ts ex s).2:=(zip hx s).trans (zj7 hx _ _ _)
end
theorem zdr:∀(d:Nat) (s:RS),RP s (rexpr ts d s).2
 | 0,s=>RP.refl s
 | d+1,s=>zpa (fun s=>zdr d s) s
end
end
end Go.Proofs.YtafjkbbiaopemaaGreatDoor.Tr
