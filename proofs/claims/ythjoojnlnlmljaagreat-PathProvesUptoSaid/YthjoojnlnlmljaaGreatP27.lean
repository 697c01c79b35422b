/- A region that draws its order, inside a round of a range over a function: walked as outside of one, where no operation defers. -/
import Derived.Test.YthjoojnlnlmljaaGreatP00
import Derived.BigRegionIn
set_option linter.all false
set_option maxRecDepth 100000
set_option maxHeartbeats 8000000
namespace Go.Proofs.YthjoojnlnlmljaaGreat
open Go
def Zz (o:Oper):Bool:=match o.op with
  | .defer _=>false
  | _=>true
theorem qdg {o:Oper}(h:Zz o=true): ∀c,o.op≠ .defer c:=by
  intro c e;unfold Zz at h;rw[e]at h
  cases h
theorem qdd {F:Fence}{n:Nat}{P:Program}{o:Oper}{a:Act}{w:World}{K:Act→World→Prop}{Q:Exit→Act→World→Prop}{l:Nat}(q:Zz o=true)
    (h:o.wpIn F n P a w K Q):o.wpIn (F.inRound l) n P a w K Q:=by
  unfold Oper.wpIn at*;rw[Oper.semAt_eq _ _ _ (qdg q)]at h⊢;exact h
theorem qfg {F:Fence}{n:Nat}{P:Program}{ops:Array Oper}{Q:Exit→Act→World→Prop}{l i:Nat}{K D:Act→World→Prop}{a:Act}{w:World}(O:ops.all Zz=true)
    (G: ∀a w,K a w→D a w) (h:wpOpIn F n P ops Q i K a w):wpOpIn (F.inRound l) n P ops Q i D a w:=by
  refine wpOpIn_mono G ?_;unfold wpOpIn at*
  cases ho:ops[i]? with
  | none=>rw[ho]at h;exact h
  | some o=>
    rw[ho]at h;have q:Zz o=true:=by
      obtain⟨I,J⟩:=Ai ho;exact J▸(Array.all_eq_true.1 O i I)
    by_cases r:Region.wanted o (yielded ops a.tmps)=true
    · simp only[r,if_true]at h⊢
      exact qdd q h
    · simp only[r]at h⊢
      exact h
theorem qaI {F:Fence}{n:Nat}{P:Program}{md:Region.Mode}{ops:Array Oper}{Q:Exit→Act→World→Prop}{l:Nat}(q:ops.all Zz=true):
    ∀(fuel:Nat) (o:Array Bool) (a:Act) (w:World),wpAnyIn F n P md ops Q fuel o a w→wpAnyIn (F.inRound l) n P md ops Q fuel o a w
  | 0,_,_,_,h=>h
  | fuel+1,_,_,_,h=>⟨h.1,fun i r=>qfg q (qaI q fuel _) (h.2 i r)⟩
theorem JB {F:Fence}{n:Nat}{P:Program}{ops:Array Oper}{Q:Exit→Act→World→Prop}{l q:Nat}{a:Act}{w:World}(o:P.follows .mixedOrders=true)(r:ops.all Zz=true)
    (h:wpAnyIn F n P .any ops Q ops.size (Array.replicate ops.size false) a w.drew):(Code.region q ops true).wpIn (F.inRound l) n P Q a w:=
  wpIn_region_any o (qaI r _ _ _ _ h)
end Go.Proofs.YthjoojnlnlmljaaGreat
