/- A drawn region by an invariant, its frame a letter. No condition. -/
import Derived.Test.YtdndeffmlhaipaaGreatDoorM13
import Derived.Test.YtdndeffmlhaipaaGreatDoorM18
set_option linter.all false
set_option maxRecDepth 100000
set_option maxHeartbeats 8000000
namespace Go.Proofs.YtdndeffmlhaipaaGreatDoor
open Go
theorem jW {P:Program}{ops:List Oper}{a0:Act}{Q:Exit→Act→World→Prop}{R:World→Prop}{Good:Nat→Value→World→Prop}{id:Nat}{w:World}{ds:List Tmp}(hds:ops.filterMap (·.dst)=ds)(hsz:(ds.all fun d=>decide (d<a0.tmps.size))=true)(hg:(ops.all fun o=>o.guard.isNone)=true)(hnd:ds.Nodup)(hback:yr ops=true)(hm:P.follows .mixedOrders=true)(hR:R w.drew)
  (hstep: ∀(i:Nat) (o:Oper),ops[i]? =some o→ ∀(A:Act) (x:Tmp→Value) (W:World),ZX a0 x ds A→R W→
   (∀e∈o.after,Region.binds .any e=true→ ∀oe,ops[e.on]? =some oe→Good e.on (qC x oe) W)→
   ∀K:Act→World→Prop,(∀v W',R W'→(∀j u,j≠i→Good j u W→Good j u W')→Good i v W'→K (A.put o.dst v) W')→Oper.wp P o A W K Q)
  (hgn: ∀i o v W,ops[i]? =some o→o.dst=none→Good i v W→Good i undef W)
  (hend: ∀(x:Tmp→Value) (W:World),R W→(∀i o,ops[i]? =some o→Good i (qC x o) W)→Q .normal (lay a0 x ds) W):
  (Code.region id ops.toArray true).wp P Q a0 w:=by
 refine JK (R:=R) (Good:=Good) hds hnd hback hm hR ?_ hgn hend;intro i o ho x W hR hdep K hK;have hn:=List.all_eq_true.1 hg o (List.mem_of_getElem? ho);rw[Option.isNone_iff_eq_none]at hn;rw[if_pos (by simp[Region.wanted,hn])];exact hstep i o ho _ x W (ZK fun d hd=>of_decide_eq_true (List.all_eq_true.1 hsz d hd)) hR hdep K hK
end Go.Proofs.YtdndeffmlhaipaaGreatDoor
