/- The frame of every law of this seat: a law that returns true and turns nothing that was there is proved as its row says. No condition. -/
import Derived.ProofKit
import Derived.WalkKit
import Derived.Below
import Derived.Carry
import Derived.SizedLaws
import Derived.Deep.CondSized
import Derived.Lib.SmallJoins
set_option linter.all false
set_option maxRecDepth 100000
set_option maxHeartbeats 8000000
namespace Go.Proofs.YthjoojnlnlmljaaGreat
open Go.ChangeShapes Go.WideShapes Go.ChangeAt Go.RowKit
theorem jo {H:Type}{enc:TypeId×Value→H}{P:Program}(S:laidOutB P=true){W W':World}(O:Below W.heap.size W W'):
  ∀(o:List TypeId) (vs:List Value) (ds:List (DataW H)) (D:List MemPlace),(∀t∈o,P.readableRec t=true∧t<P.types.size)→
   DataW.TrodAll enc P W 0 (fun _=>true) true o vs ds D→(∀x∈D,x.block<W.heap.size)→
   DataW.TrodAll enc P W' 0 (fun b=>decide (b<W.heap.size)) true o vs ds D
 | [],vs,ds,D,_,h,_=>by
  obtain⟨rfl,rfl,rfl⟩:=trodAll_nil h;exact rfl
 | t::o,vs,ds,D,hr,h,hlt=>by
  obtain⟨v,I,d,J,p,q,rfl,rfl,rfl,Z,V⟩:=trodAll_cons h;obtain⟨X,r2⟩:=hr t (by simp);refine⟨p,q,Below.trod S X r2 Z O (fun x G=>hlt x (by simp[G])),?_,rfl⟩;exact jo S O o I J q (fun Y U=>hr Y (by simp[U])) V (fun x G=>hlt x (by simp[G]))
def qh8 (W:World)(e:Ending)(W':World):Prop:=e= .returned (.bool true)∧Below W.heap.size W W'
theorem qby {H:Type}{enc:TypeId×Value→H}{P:Program}{f:Func}{s:ChangeSpec}(hl:laidOutB P=true)(X:TypeId)(I:f.resultTypes= #[X])(Y:P.underlying X=some .bool)
  (D: ∀t∈f.params.toList,P.readableRec t=true∧t<P.types.size) (O:s.vars=[]) {W W':World} {args:Array Value} {ds gs:List (DataW H)} {o:List MemPlace}
  (U:DataW.Whole enc P f.params.toList s.vars false W args.toList ds gs o) (J:s.fn H (ds++gs)= { results:=[.lit (.bool true)],args:=ds })
  (V:Below W.heap.size W W'):s.post enc P f false true false false W args (.bool true) W':=by
 have G:=U;obtain⟨p,q,hA,Z,aa,ab,ac⟩:=U;rw[O]at Z;obtain⟨rfl,rfl⟩:=trodVars_none Z;have S: ∀x∈p,x.block<W.heap.size:=fun x hx=>G.lt x (by rw[aa];simpa using hx)
 refine⟨ds,[],o,[],p,[],G,?_,?_,?_,?_,fun h=>by cases h⟩
 ·rw[J,I];exact trodAll_mk1 (shut_bool Y _)
 ·rw[J];exact jo hl V _ _ _ _ D hA S
 ·rw[J,O];exact rfl
 ·exact V.frame _
end Go.Proofs.YthjoojnlnlmljaaGreat
