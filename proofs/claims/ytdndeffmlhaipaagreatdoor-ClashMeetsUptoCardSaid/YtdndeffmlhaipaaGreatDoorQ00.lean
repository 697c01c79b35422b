/- Short names. No condition. -/
import Derived.RangeFuncRecord
import Derived.Below
import Derived.Tactics
import Derived.Laws.AppendOwn
set_option linter.all false
namespace Go.Proofs.YtdndeffmlhaipaaGreatDoor
open Go Go.RowKit
theorem Ai{α:Type}{x:Array α}{i:Nat}{a:α}(h:x[i]?=some a): ∃h:i<x.size,x[i]=a:=Array.getElem?_eq_some_iff.1 h
theorem Ls{α:Type}:(∀(l:List α)(i:Nat)(a:α),l.toArray.setIfInBounds i a=(l.set i a).toArray)∧(∀(a b:α)(l:List α),(a::l).set 0 b=b::l)∧ ∀(a:α)(l:List α)(n:Nat)(b:α),(a::l).set (n+1) b=a::l.set n b:=⟨fun _ _ _=>List.setIfInBounds_toArray ..,fun _ _ _=>rfl,fun _ _ _ _=>rfl⟩
theorem Ex{α:Sort _}(a:α): ∃b,a=b:=⟨a,rfl⟩
theorem Br{B:Nat}{w:World}:Below B w w:=Below.refl _ _
theorem Nl{n:Nat}:n≤n:=Nat.le_refl n
def Lg:=@List.getD_eq_getElem?_getD
def Lh:=@Array.getD_eq_getD_getElem?
def Wn:=@World.alloc_heap_new
def Bh:=@Below.heap_alloc
def Bp:=@bodyPost_ret
def Wo:=@World.ownsRow_nil
end Go.Proofs.YtdndeffmlhaipaaGreatDoor
