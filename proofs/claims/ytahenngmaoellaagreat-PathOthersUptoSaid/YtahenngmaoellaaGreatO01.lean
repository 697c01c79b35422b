/- Lemmas. No condition. -/
import Derived.Deep.CondSized
import Derived.Lib.SmallJoins
set_option linter.all false
set_option maxRecDepth 100000
set_option maxHeartbeats 0
namespace Go.Proofs.YtahenngmaoellaaGreat
open Go.ChangeShapes Go.WideShapes Go.ChangeAt Go.RowKit
theorem Jp {H:Type}{enc:TypeId×Value->H}{P:Program}(I:laidOutB P=true){W W':World}(O:Below W.heap.size W W'):
  ∀(r:List TypeId) (vs:List Value) (ds:List (DataW H)) (o:List MemPlace),(∀t∈r,P.readableRec t=true/\t<P.types.size)->
   DataW.TrodAll enc P W 0 (fun _=>true) true r vs ds o->(∀x∈o,x.block<W.heap.size)->
   DataW.TrodAll enc P W' 0 (fun b=>decide (b<W.heap.size)) true r vs ds o
 | [],vs,ds,o,_,h,_=>by
  obtain⟨rfl,rfl,rfl⟩:=trodAll_nil h;exact rfl
 | t::r,vs,ds,o,hr,h,hlt=>by
  obtain⟨v,J,d,G,p,q,rfl,rfl,rfl,Y,X⟩:=trodAll_cons h;obtain⟨V,U⟩:=hr t (by simp);refine⟨p,q,Below.trod I V U Y O (fun x D=>hlt x (by simp[D])),?_,rfl⟩;exact Jp I O r J G q (fun Z S=>hr Z (by simp[S])) X (fun x D=>hlt x (by simp[D]))
def qhl (W:World)(e:Ending)(W':World):Prop:=e= .returned (.bool true)/\Below W.heap.size W W'
theorem qcS {H:Type}{enc:TypeId×Value->H}{P:Program}{f:Func}{s:ChangeSpec}(hl:laidOutB P=true)(O:TypeId)(G:f.resultTypes= #[O])(S:P.underlying O=some .bool)
  (r: ∀t∈f.params.toList,P.readableRec t=true/\t<P.types.size) (V:s.vars=[]) {W W':World} {args:Array Value} {ds gs:List (DataW H)} {o:List MemPlace}
  (Z:DataW.Whole enc P f.params.toList s.vars false W args.toList ds gs o) (I:s.fn H (ds++gs)= { results:=[.lit (.bool true)],args:=ds })
  (U:Below W.heap.size W W'):s.post enc P f false true false false W args (.bool true) W':=by
 have D:=Z;obtain⟨p,q,hA,J,Y,aa,ab⟩:=Z;rw[V]at J;obtain⟨rfl,rfl⟩:=trodVars_none J;have X: ∀x∈p,x.block<W.heap.size:=fun x hx=>D.lt x (by rw[Y];simpa using hx)
 refine⟨ds,[],o,[],p,[],D,?_,?_,?_,?_,fun h=>by cases h⟩
 ·rw[I,G];exact trodAll_mk1 (shut_bool S _)
 ·rw[I];exact Jp hl U _ _ _ _ r hA X
 ·rw[I,V];exact rfl
 ·exact U.frame _
