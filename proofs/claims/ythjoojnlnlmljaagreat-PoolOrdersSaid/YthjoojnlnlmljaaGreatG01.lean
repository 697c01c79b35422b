/- The frame of every law of this seat: a law that returns true and turns nothing that was there is proved as its row says. No condition. -/
import Derived.ProofKit
import Derived.WalkKit
import Derived.Below
import Derived.Carry
import Derived.SizedLaws
import Derived.Deep.CondSized
import Derived.Lib.SmallJoins
set_option linter.all false
set_option maxRecDepth 100000
set_option maxHeartbeats 8000000
namespace Go.Proofs.YthjoojnlnlmljaaGreat
open Go.ChangeShapes Go.WideShapes Go.ChangeAt Go.RowKit
theorem jH {H:Type}{enc:TypeId×Value→H}{P:Program}(I:laidOutB P=true){W W':World}(O:Below W.heap.size W W'):
  ∀(D:List TypeId) (vs:List Value) (ds:List (DataW H)) (o:List MemPlace),(∀t∈D,P.readableRec t=true∧t<P.types.size)→
   DataW.TrodAll enc P W 0 (fun _=>true) true D vs ds o→(∀x∈o,x.block<W.heap.size)→
   DataW.TrodAll enc P W' 0 (fun b=>decide (b<W.heap.size)) true D vs ds o
 | [],vs,ds,o,_,h,_=>by
  obtain⟨rfl,rfl,rfl⟩:=trodAll_nil h;exact rfl
 | t::D,vs,ds,o,hr,h,hlt=>by
  obtain⟨v,U,d,V,p,q,rfl,rfl,rfl,h1,X⟩:=trodAll_cons h;obtain⟨Z,r2⟩:=hr t (by simp);refine⟨p,q,Below.trod I Z r2 h1 O (fun x G=>hlt x (by simp[G])),?_,rfl⟩;exact jH I O D U V q (fun Y J=>hr Y (by simp[J])) X (fun x G=>hlt x (by simp[G]))
def qh2 (W:World)(e:Ending)(W':World):Prop:=e= .returned (.bool true)∧Below W.heap.size W W'
theorem qb0 {H:Type}{enc:TypeId×Value→H}{P:Program}{f:Func}{s:ChangeSpec}(hl:laidOutB P=true)(X:TypeId)(J:f.resultTypes= #[X])(V:P.underlying X=some .bool)
  (D: ∀t∈f.params.toList,P.readableRec t=true∧t<P.types.size) (Y:s.vars=[]) {W W':World} {args:Array Value} {ds gs:List (DataW H)} {o:List MemPlace}
  (O:DataW.Whole enc P f.params.toList s.vars false W args.toList ds gs o) (I:s.fn H (ds++gs)= { results:=[.lit (.bool true)],args:=ds })
  (hb:Below W.heap.size W W'):s.post enc P f false true false false W args (.bool true) W':=by
 have G:=O;obtain⟨p,q,hA,U,aa,ac,ab⟩:=O;rw[Y]at U;obtain⟨rfl,rfl⟩:=trodVars_none U;have Z: ∀x∈p,x.block<W.heap.size:=fun x hx=>G.lt x (by rw[aa];simpa using hx)
 refine⟨ds,[],o,[],p,[],G,?_,?_,?_,?_,fun h=>by cases h⟩
 ·rw[I,J];exact trodAll_mk1 (shut_bool V _)
 ·rw[I];exact jH hl hb _ _ _ _ D hA Z
 ·rw[I,Y];exact rfl
 ·exact hb.frame _
end Go.Proofs.YthjoojnlnlmljaaGreat
