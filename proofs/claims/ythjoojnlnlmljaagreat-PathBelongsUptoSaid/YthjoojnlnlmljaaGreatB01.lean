/- The frame of every law of this seat: a law that returns true and turns nothing that was there is proved as its row says. No condition. -/
import Derived.ProofKit
import Derived.WalkKit
import Derived.Below
import Derived.Carry
import Derived.SizedLaws
import Derived.Deep.CondSized
import Derived.Lib.SmallJoins
set_option linter.all false
set_option maxRecDepth 100000
set_option maxHeartbeats 8000000
namespace Go.Proofs.YthjoojnlnlmljaaGreat
open Go.ChangeShapes Go.WideShapes Go.ChangeAt Go.RowKit
theorem Jd {H:Type}{enc:TypeId×Value→H}{P:Program}(G:laidOutB P=true){W W':World}(S:Below W.heap.size W W'):
  ∀(r:List TypeId) (vs:List Value) (ds:List (DataW H)) (o:List MemPlace),(∀t∈r,P.readableRec t=true∧t<P.types.size)→
   DataW.TrodAll enc P W 0 (fun _=>true) true r vs ds o→(∀x∈o,x.block<W.heap.size)→
   DataW.TrodAll enc P W' 0 (fun b=>decide (b<W.heap.size)) true r vs ds o
 | [],vs,ds,o,_,h,_=>by
  obtain⟨rfl,rfl,rfl⟩:=trodAll_nil h;exact rfl
 | t::r,vs,ds,o,hr,h,hlt=>by
  obtain⟨v,O,d,J,p,q,rfl,rfl,rfl,U,V⟩:=trodAll_cons h;obtain⟨Z,X⟩:=hr t (by simp);refine⟨p,q,Below.trod G Z X U S (fun x D=>hlt x (by simp[D])),?_,rfl⟩;exact Jd G S r O J q (fun Y I=>hr Y (by simp[I])) V (fun x D=>hlt x (by simp[D]))
def qgZ (W:World)(e:Ending)(W':World):Prop:=e= .returned (.bool true)∧Below W.heap.size W W'
theorem qcz {H:Type}{enc:TypeId×Value→H}{P:Program}{f:Func}{s:ChangeSpec}(hl:laidOutB P=true)(Z:TypeId)(G:f.resultTypes= #[Z])(X:P.underlying Z=some .bool)
  (r: ∀t∈f.params.toList,P.readableRec t=true∧t<P.types.size) (Y:s.vars=[]) {W W':World} {args:Array Value} {ds gs:List (DataW H)} {o:List MemPlace}
  (O:DataW.Whole enc P f.params.toList s.vars false W args.toList ds gs o) (I:s.fn H (ds++gs)= { results:=[.lit (.bool true)],args:=ds })
  (S:Below W.heap.size W W'):s.post enc P f false true false false W args (.bool true) W':=by
 have D:=O;obtain⟨p,q,hA,V,J,aa,ab⟩:=O;rw[Y]at V;obtain⟨rfl,rfl⟩:=trodVars_none V;have U: ∀x∈p,x.block<W.heap.size:=fun x hx=>D.lt x (by rw[J];simpa using hx)
 refine⟨ds,[],o,[],p,[],D,?_,?_,?_,?_,fun h=>by cases h⟩
 ·rw[I,G];exact trodAll_mk1 (shut_bool X _)
 ·rw[I];exact Jd hl S _ _ _ _ r hA U
 ·rw[I,Y];exact rfl
 ·exact S.frame _
end Go.Proofs.YthjoojnlnlmljaaGreat
