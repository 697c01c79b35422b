/- The frame of every law of this seat: a law that returns true and turns nothing that was there is proved as its row says. No condition. -/
import Derived.ProofKit
import Derived.WalkKit
import Derived.Below
import Derived.Carry
import Derived.SizedLaws
import Derived.Deep.CondSized
import Derived.Lib.SmallJoins
set_option linter.all false
set_option maxRecDepth 100000
set_option maxHeartbeats 8000000
namespace Go.Proofs.YthjoojnlnlmljaaGreat
open Go.ChangeShapes Go.WideShapes Go.ChangeAt Go.RowKit
theorem jW {H:Type}{enc:TypeId×Value→H}{P:Program}(U:laidOutB P=true){W W':World}(I:Below W.heap.size W W'):
  ∀(r:List TypeId) (vs:List Value) (ds:List (DataW H)) (o:List MemPlace),(∀t∈r,P.readableRec t=true∧t<P.types.size)→
   DataW.TrodAll enc P W 0 (fun _=>true) true r vs ds o→(∀x∈o,x.block<W.heap.size)→
   DataW.TrodAll enc P W' 0 (fun b=>decide (b<W.heap.size)) true r vs ds o
 | [],vs,ds,o,_,h,_=>by
  obtain⟨rfl,rfl,rfl⟩:=trodAll_nil h;exact rfl
 | t::r,vs,ds,o,hr,h,hlt=>by
  obtain⟨v,G,d,O,p,q,rfl,rfl,rfl,Z,V⟩:=trodAll_cons h;obtain⟨X,r2⟩:=hr t (by simp);refine⟨p,q,Below.trod U X r2 Z I (fun x D=>hlt x (by simp[D])),?_,rfl⟩;exact jW U I r G O q (fun Y J=>hr Y (by simp[J])) V (fun x D=>hlt x (by simp[D]))
def qh2 (W:World)(e:Ending)(W':World):Prop:=e= .returned (.bool true)∧Below W.heap.size W W'
theorem qb8 {H:Type}{enc:TypeId×Value→H}{P:Program}{f:Func}{s:ChangeSpec}(hl:laidOutB P=true)(Z:TypeId)(G:f.resultTypes= #[Z])(U:P.underlying Z=some .bool)
  (r: ∀t∈f.params.toList,P.readableRec t=true∧t<P.types.size) (V:s.vars=[]) {W W':World} {args:Array Value} {ds gs:List (DataW H)} {o:List MemPlace}
  (hW:DataW.Whole enc P f.params.toList s.vars false W args.toList ds gs o) (I:s.fn H (ds++gs)= { results:=[.lit (.bool true)],args:=ds })
  (J:Below W.heap.size W W'):s.post enc P f false true false false W args (.bool true) W':=by
 have D:=hW;obtain⟨p,q,hA,O,X,aa,ab⟩:=hW;rw[V]at O;obtain⟨rfl,rfl⟩:=trodVars_none O;have Y: ∀x∈p,x.block<W.heap.size:=fun x hx=>D.lt x (by rw[X];simpa using hx)
 refine⟨ds,[],o,[],p,[],D,?_,?_,?_,?_,fun h=>by cases h⟩
 ·rw[I,G];exact trodAll_mk1 (shut_bool U _)
 ·rw[I];exact jW hl J _ _ _ _ r hA Y
 ·rw[I,V];exact rfl
 ·exact J.frame _
end Go.Proofs.YthjoojnlnlmljaaGreat
