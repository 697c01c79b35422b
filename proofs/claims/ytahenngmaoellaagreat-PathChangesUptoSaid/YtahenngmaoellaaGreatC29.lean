/- A region that draws its order, inside a round of a range over a function: walked as outside of one, where no operation defers. -/
import Derived.Test.YtahenngmaoellaaGreatP00
import Derived.BigRegionIn
set_option linter.all false
set_option maxRecDepth 100000
set_option maxHeartbeats 8000000
namespace Go.Proofs.YtahenngmaoellaaGreat
open Go
def Zm (o:Oper):Bool:=match o.op with
  | .defer _=>false
  | _=>true
theorem qcK {o:Oper}(h:Zm o=true): ∀c,o.op≠ .defer c:=by
  intro c e;unfold Zm at h;rw[e]at h
  cases h
theorem qcI {F:Fence}{n:Nat}{P:Program}{o:Oper}{a:Act}{w:World}{K:Act→World→Prop}{Q:Exit→Act→World→Prop}{l:Nat}(hd:Zm o=true)
    (h:o.wpIn F n P a w K Q):o.wpIn (F.inRound l) n P a w K Q:=by
  unfold Oper.wpIn at*;rw[Oper.semAt_eq _ _ _ (qcK hd)]at h⊢;exact h
theorem qeJ {F:Fence}{n:Nat}{P:Program}{ops:Array Oper}{Q:Exit→Act→World→Prop}{l i:Nat}{K K':Act→World→Prop}{a:Act}{w:World}(hd:ops.all Zm=true)
    (hK: ∀a w,K a w→K' a w) (h:wpOpIn F n P ops Q i K a w):wpOpIn (F.inRound l) n P ops Q i K' a w:=by
  refine wpOpIn_mono hK ?_;unfold wpOpIn at*
  cases ho:ops[i]? with
  | none=>rw[ho]at h;exact h
  | some o=>
    rw[ho]at h;have hdo:Zm o=true:=by
      obtain⟨hi,he⟩:=Ai ho;exact he▸(Array.all_eq_true.1 hd i hi)
    by_cases hw:Region.wanted o (yielded ops a.tmps)=true
    · simp only[hw,if_true]at h⊢
      exact qcI hdo h
    · simp only[hw]at h⊢
      exact h
theorem qau {F:Fence}{n:Nat}{P:Program}{md:Region.Mode}{ops:Array Oper}{Q:Exit→Act→World→Prop}{l:Nat}(hd:ops.all Zm=true):
    ∀(fuel:Nat) (listed:Array Bool) (a:Act) (w:World),wpAnyIn F n P md ops Q fuel listed a w→wpAnyIn (F.inRound l) n P md ops Q fuel listed a w
  | 0,_,_,_,h=>h
  | fuel+1,_,_,_,h=>⟨h.1,fun i hi=>qeJ hd (qau hd fuel _) (h.2 i hi)⟩
theorem Je {F:Fence}{n:Nat}{P:Program}{ops:Array Oper}{Q:Exit→Act→World→Prop}{l id:Nat}{a:Act}{w:World}(hm:P.follows .mixedOrders=true)(hd:ops.all Zm=true)
    (h:wpAnyIn F n P .any ops Q ops.size (Array.replicate ops.size false) a w.drew):(Code.region id ops true).wpIn (F.inRound l) n P Q a w:=
  wpIn_region_any hm (qau hd _ _ _ _ h)
end Go.Proofs.YtahenngmaoellaaGreat
