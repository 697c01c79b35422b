/- Lemmas. No condition. -/
import Derived.Test.YtahenngmaoellaaGreatP00
import Derived.BigRegionIn
set_option linter.all false
set_option maxRecDepth 100000
set_option maxHeartbeats 0
namespace Go.Proofs.YtahenngmaoellaaGreat
open Go
variable{o:Oper}{F:Fence}{n l:Nat}{P:Program}{a:Act}{K:Act->World->Prop}{Q:Exit->Act->World->Prop}{ops:Array Oper}
def Z2 (o:Oper):Bool:=match o.op with
  | .defer _=>false
  | _=>true
theorem qd7 (h:Z2 o=true): ∀c,o.op≠ .defer c:=by
  intro c e;unfold Z2 at h;rw[e]at h
  cases h
theorem qd5 {w:World}(q:Z2 o=true)
    (h:o.wpIn F n P a w K Q):o.wpIn (F.inRound l) n P a w K Q:=by
  unfold Oper.wpIn at*;rw[Oper.semAt_eq _ _ _ (qd7 q)]at h⊢;exact h
theorem qgr {i:Nat}{D:Act->World->Prop}{w:World}(I:ops.all Z2=true)
    (G: ∀a w,K a w->D a w) (h:wpOpIn F n P ops Q i K a w):wpOpIn (F.inRound l) n P ops Q i D a w:=by
  refine wpOpIn_mono G ?_;unfold wpOpIn at*
  cases ho:ops[i]? with
  | none=>rw[ho]at h;exact h
  | some o=>
    rw[ho]at h;have q:Z2 o=true:=by
      obtain⟨hi,J⟩:=Ai ho;exact J▸(Array.all_eq_true.1 I i hi)
    by_cases r:Region.wanted o (yielded ops a.tmps)=true
    · simp only[r,if_true]at h⊢
      exact qd5 q h
    · simp only[r]at h⊢
      exact h
theorem qbk {F:Fence}{n:Nat}{P:Program}{md:Region.Mode}{ops:Array Oper}{Q:Exit->Act->World->Prop}{l:Nat}(q:ops.all Z2=true):
    ∀(fuel:Nat) (o:Array Bool) (a:Act) (w:World),wpAnyIn F n P md ops Q fuel o a w->wpAnyIn (F.inRound l) n P md ops Q fuel o a w
  | 0,_,_,_,h=>h
  | fuel+1,_,_,_,h=>⟨h.1,fun i hi=>qgr q (qbk q fuel _) (h.2 i hi)⟩
theorem JY {r:Nat}{w:World}(o:P.follows .mixedOrders=true)(q:ops.all Z2=true)
    (h:wpAnyIn F n P .any ops Q ops.size (Array.replicate ops.size false) a w.drew):(Code.region r ops true).wpIn (F.inRound l) n P Q a w:=
  wpIn_region_any o (qbk q _ _ _ _ h)
