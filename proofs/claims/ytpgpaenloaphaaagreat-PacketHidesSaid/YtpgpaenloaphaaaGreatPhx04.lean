/- Part of the proof: Frm2. -/
import Derived.Test.YtpgpaenloaphaaaGreatPhx01
set_option maxRecDepth 100000
set_option maxHeartbeats 16000000
namespace Go.Proofs.YtpgpaenloaphaaaGreat
open Go.RowKit
def chk(k i c id n:Nat):Int :=
 if 450<n then 2 else if c<1∨16<c∨c≤i then 3 else if k≠1∧c≠1 then 3 else if k=2∧(id≠0∨n≠0) then 3 else 0
theorem zwo{a b:Int}(h:a=b):Ending.returned (Value.int .i64 a)=.returned (.int .i64 b):=by rw[h]
theorem zlq(A:Option Addr)(n cp k id i c:Nat)(w:World)(h1:1≤k)(h3:k≤3)(hn:n≤450):
 Calls Tryz.prog 100 #[.agg #[.int .u8 k,.int .u64 id,.int .i64 i,.int .i64 c,.slice A n cp]] w fun e w'=>e=.returned (.int .i64 (chk k i c id n))∧Below w.heap.size w w':=by
 have hn1:¬(450:Int)<(n:Int):=om;have hc0:(0:Int)≤(i:Int):=om;obtain rfl|rfl|rfl:k=1∨k=2∨k=3:=om
 all_goals
   go_enter Tryz.func100, Tryz.ntmps100
   go_wp2_with fail
   all_goals (go_ret;refine⟨zwo ?_,(Below.refl _ _).alloc lr _⟩;clear hn1 hc0;unfold chk)
   all_goals (repeat' split)
   all_goals (first|rfl|omega|(exfalso;simp_all;omega)| (exfalso;simp_all;done))
end Go.Proofs.YtpgpaenloaphaaaGreat
