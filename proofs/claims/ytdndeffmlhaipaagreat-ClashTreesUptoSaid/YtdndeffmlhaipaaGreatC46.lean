/- A drawn region by an invariant that may speak of all slots. No condition. -/
import Derived.Test.YtdndeffmlhaipaaGreatC44
import Derived.Test.YtdndeffmlhaipaaGreatC18
set_option linter.all false
set_option maxRecDepth 100000
set_option maxHeartbeats 8000000
namespace Go.Proofs.YtdndeffmlhaipaaGreat
open Go
theorem qaK {P:Program}{ops:List Oper}{a0:Act}{Q:Exit→Act→World→Prop}{R:World→Prop}{Good:Nat→(Tmp→Value)→World→Prop}{Rel:(Nat→Bool)→(Tmp→Value)→World→Prop}{id:Nat}{w:World}{ds:List Tmp}(hds:ops.filterMap (·.dst)=ds)(hsz:(ds.all fun d=>decide (d<a0.tmps.size))=true)(hg:(ops.all fun o=>o.guard.isNone)=true)(hnd:ds.Nodup)(hback:yQ ops=true)(hm:P.follows .mixedOrders=true)(hR:R w.drew)(hRel: ∀D:Nat→Bool,(∀j,j<ops.length→D j=false)→Rel D (fun d=>a0.tmps.getD d undef) w.drew)
  (hstep: ∀(i:Nat) (o:Oper),ops[i]? =some o→ ∀(D:Nat→Bool) (A:Act) (x:Tmp→Value) (W:World),Ja a0 x ds A→R W→Rel D x W→D i=false→qdh ops D→(∀j,j<ops.length→D j=true→Good j x W)→
   (∀e∈o.after,Region.binds .any e=true→e.on<ops.length→Good e.on x W)→
   ∀K:Act→World→Prop,(∀v W',R W'→Rel (setD D i) (yJ x o.dst v) W'→(∀j,j≠i→D j=true→Good j x W→Good j (yJ x o.dst v) W')→Good i (yJ x o.dst v) W'→K (A.put o.dst v) W')→Oper.wp P o A W K Q)
  (hend: ∀(x:Tmp→Value) (W:World),R W→(∀i,i<ops.length→Good i x W)→Q .normal (lay a0 x ds) W):
  (Code.region id ops.toArray true).wp P Q a0 w:=by
 subst hds;refine wp_region_any hm ?_;have h:=qbX (P:=P) (ops:=ops) (a0:=a0) (Q:=Q) (R:=fun D x W=>(R W∧Rel D x W)∧ ∀i,i<ops.length→D i=true→Good i x W) hnd hback (fun i o hi D x W hRW hDi hdep hC K hK=>by
   have hn:=List.all_eq_true.1 hg o (List.mem_of_getElem? hi);rw[Option.isNone_iff_eq_none]at hn;rw[if_pos (by simp[Region.wanted,hn])];refine hstep i o hi D _ x W (ZR fun d hd=>of_decide_eq_true (List.all_eq_true.1 hsz d hd)) hRW.1.1 hRW.1.2 hDi hC hRW.2 (fun e he hb hlt=>hRW.2 _ hlt (hdep e he hb)) K fun v W' h1 h4 h2 h3=>hK v W' ⟨⟨h1,h4⟩,fun j hj hd=>?_⟩
   by_cases e:j=i
   ·rw[e];exact h3
   ·exact h2 j e (by unfold setD at hd;simpa [e] using hd) (hRW.2 j hj (by unfold setD at hd;simpa [e] using hd))) (fun D x W hRW hall=>hend x W hRW.1.1 fun i hi=>hRW.2 i hi (hall i)) ops.toArray.size (Array.replicate ops.toArray.size false) (fun d=>a0.tmps.getD d undef) w.drew (by simp) (by
  simp only[Array.toList_replicate,Y0,List.countP_replicate];simp) ⟨⟨hR,hRel _ fun j hj=>by simp[Lh,hj]⟩,fun i hi hl=>by
  simp[Lh,hi]at hl⟩ (fun i o hi hl=>by
  have hlt:i<ops.length:=(List.getElem?_eq_some_iff.1 hi).1;simp[Lh,hlt]at hl)
 rw[Zc]at h;exact h
end Go.Proofs.YtdndeffmlhaipaaGreat
