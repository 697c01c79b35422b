/- A region that draws its order, inside a round of a range over a function: walked as outside of one, where no operation defers. -/
import Derived.Test.YthjoojnlnlmljaaGreatP00
import Derived.BigRegionIn
set_option linter.all false
set_option maxRecDepth 100000
set_option maxHeartbeats 8000000
namespace Go.Proofs.YthjoojnlnlmljaaGreat
open Go
def ZO (o:Oper):Bool:=match o.op with
  | .defer _=>false
  | _=>true
theorem qdQ {o:Oper}(h:ZO o=true): ∀c,o.op≠ .defer c:=by
  intro c e;unfold ZO at h;rw[e]at h
  cases h
theorem qdO {F:Fence}{n:Nat}{P:Program}{o:Oper}{a:Act}{w:World}{K:Act→World→Prop}{Q:Exit→Act→World→Prop}{l:Nat}(q:ZO o=true)
    (h:o.wpIn F n P a w K Q):o.wpIn (F.inRound l) n P a w K Q:=by
  unfold Oper.wpIn at*;rw[Oper.semAt_eq _ _ _ (qdQ q)]at h⊢;exact h
theorem qf4 {F:Fence}{n:Nat}{P:Program}{ops:Array Oper}{Q:Exit→Act→World→Prop}{l i:Nat}{K r:Act→World→Prop}{a:Act}{w:World}(G:ops.all ZO=true)
    (I: ∀a w,K a w→r a w) (h:wpOpIn F n P ops Q i K a w):wpOpIn (F.inRound l) n P ops Q i r a w:=by
  refine wpOpIn_mono I ?_;unfold wpOpIn at*
  cases ho:ops[i]? with
  | none=>rw[ho]at h;exact h
  | some o=>
    rw[ho]at h;have q:ZO o=true:=by
      obtain⟨hi,J⟩:=Ai ho;exact J▸(Array.all_eq_true.1 G i hi)
    by_cases D:Region.wanted o (yielded ops a.tmps)=true
    · simp only[D,if_true]at h⊢
      exact qdO q h
    · simp only[D]at h⊢
      exact h
theorem qa8 {F:Fence}{n:Nat}{P:Program}{md:Region.Mode}{ops:Array Oper}{Q:Exit→Act→World→Prop}{l:Nat}(q:ops.all ZO=true):
    ∀(fuel:Nat) (o:Array Bool) (a:Act) (w:World),wpAnyIn F n P md ops Q fuel o a w→wpAnyIn (F.inRound l) n P md ops Q fuel o a w
  | 0,_,_,_,h=>h
  | fuel+1,_,_,_,h=>⟨h.1,fun i hi=>qf4 q (qa8 q fuel _) (h.2 i hi)⟩
theorem JM {F:Fence}{n:Nat}{P:Program}{ops:Array Oper}{Q:Exit→Act→World→Prop}{l r:Nat}{a:Act}{w:World}(q:P.follows .mixedOrders=true)(o:ops.all ZO=true)
    (h:wpAnyIn F n P .any ops Q ops.size (Array.replicate ops.size false) a w.drew):(Code.region r ops true).wpIn (F.inRound l) n P Q a w:=
  wpIn_region_any q (qa8 o _ _ _ _ h)
end Go.Proofs.YthjoojnlnlmljaaGreat
