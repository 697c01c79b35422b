/- A region that draws its order, inside a round of a range over a function: walked as outside of one, where no operation defers. -/
import Derived.Test.YthjoojnlnlmljaaGreatP00
import Derived.BigRegionIn
set_option linter.all false
set_option maxRecDepth 100000
set_option maxHeartbeats 8000000
namespace Go.Proofs.YthjoojnlnlmljaaGreat
open Go
def Zk (o:Oper):Bool:=match o.op with
  | .defer _=>false
  | _=>true
theorem qda {o:Oper}(h:Zk o=true): ∀c,o.op≠ .defer c:=by
  intro c e;unfold Zk at h;rw[e]at h
  cases h
theorem qc7 {F:Fence}{n:Nat}{P:Program}{o:Oper}{a:Act}{w:World}{K:Act→World→Prop}{Q:Exit→Act→World→Prop}{l:Nat}(q:Zk o=true)
    (h:o.wpIn F n P a w K Q):o.wpIn (F.inRound l) n P a w K Q:=by
  unfold Oper.wpIn at*;rw[Oper.semAt_eq _ _ _ (qda q)]at h⊢;exact h
theorem qfj {F:Fence}{n:Nat}{P:Program}{ops:Array Oper}{Q:Exit→Act→World→Prop}{l i:Nat}{K D:Act→World→Prop}{a:Act}{w:World}(U:ops.all Zk=true)
    (O: ∀a w,K a w→D a w) (h:wpOpIn F n P ops Q i K a w):wpOpIn (F.inRound l) n P ops Q i D a w:=by
  refine wpOpIn_mono O ?_;unfold wpOpIn at*
  cases ho:ops[i]? with
  | none=>rw[ho]at h;exact h
  | some o=>
    rw[ho]at h;have G:Zk o=true:=by
      obtain⟨J,I⟩:=Ai ho;exact I▸(Array.all_eq_true.1 U i J)
    by_cases q:Region.wanted o (yielded ops a.tmps)=true
    · simp only[q,if_true]at h⊢
      exact qc7 G h
    · simp only[q]at h⊢
      exact h
theorem qaF {F:Fence}{n:Nat}{P:Program}{md:Region.Mode}{ops:Array Oper}{Q:Exit→Act→World→Prop}{l:Nat}(q:ops.all Zk=true):
    ∀(fuel:Nat) (o:Array Bool) (a:Act) (w:World),wpAnyIn F n P md ops Q fuel o a w→wpAnyIn (F.inRound l) n P md ops Q fuel o a w
  | 0,_,_,_,h=>h
  | fuel+1,_,_,_,h=>⟨h.1,fun i D=>qfj q (qaF q fuel _) (h.2 i D)⟩
theorem Jp {F:Fence}{n:Nat}{P:Program}{ops:Array Oper}{Q:Exit→Act→World→Prop}{l q:Nat}{a:Act}{w:World}(o:P.follows .mixedOrders=true)(D:ops.all Zk=true)
    (h:wpAnyIn F n P .any ops Q ops.size (Array.replicate ops.size false) a w.drew):(Code.region q ops true).wpIn (F.inRound l) n P Q a w:=
  wpIn_region_any o (qaF D _ _ _ _ h)
end Go.Proofs.YthjoojnlnlmljaaGreat
