/- Short names. No condition. -/
import Derived.RangeFuncRecord
import Derived.Below
import Derived.Tactics
import Derived.Laws.AppendOwn
set_option linter.all false
namespace Go.Proofs.YthjoojnlnlmljaaGreat
open Go Go.RowKit
theorem Ai{α:Type}{x:Array α}{i:Nat}{a:α}(h:x[i]?=some a): ∃h:i<x.size,x[i]=a:=Array.getElem?_eq_some_iff.1 h
theorem Ls{α:Type}:(∀(l:List α)(i:Nat)(a:α),l.toArray.setIfInBounds i a=(l.set i a).toArray)∧(∀(a b:α)(l:List α),(a::l).set 0 b=b::l)∧ ∀(a:α)(l:List α)(n:Nat)(b:α),(a::l).set (n+1) b=a::l.set n b:=⟨fun _ _ _=>List.setIfInBounds_toArray ..,fun _ _ _=>rfl,fun _ _ _ _=>rfl⟩
theorem Ex{α:Sort _}(a:α): ∃b,a=b:=⟨a,rfl⟩
theorem Br{B:Nat}{w:World}:Below B w w:=Below.refl _ _
theorem Nl{n:Nat}:n≤n:=Nat.le_refl n
def Lg:=@List.getD_eq_getElem?_getD
def Lh:=@Array.getD_eq_getD_getElem?
def Wn:=@World.alloc_heap_new
def Bh:=@Below.heap_alloc
def Bp:=@bodyPost_ret
def Wo:=@World.ownsRow_nil
abbrev Ka:Array Value:=#[.int .u64 0,.int .u64 0,.int .u64 0,.int .u64 0,.int .u64 0,.int .u64 0,.int .u64 0,.int .u64 0,.int .u64 0,.int .u64 0,.int .u64 0,.int .u64 0,.int .u64 0,.int .u64 0,.int .u64 0,.int .u64 0]
abbrev Kb:Array Value:=#[.int .i64 0,.int .i64 0,.int .i64 0,.int .i64 0,.int .u32 0,.int .u64 0,.int .u32 0,.int .i64 0,.int .i64 0,.slice none 0 0,.slice none 0 0]
abbrev Kc:Array Value:=#[.int .u8 0]
abbrev Kd:Array Value:=#[.int .u32 0,.int .u32 0,.int .u32 0,.int .u32 0,.int .u32 0,.int .u32 0,.int .u32 0,.int .u32 0,.int .u32 0,.int .u32 0,.int .u32 0,.int .u32 0,.int .u32 0,.int .u32 0,.int .u32 0,.int .u32 0]
abbrev Ke:Array Value:=#[.int .i64 0,.slice none 0 0,.slice none 0 0,.bool false,.int .i64 0,.slice none 0 0]
abbrev Kf:Array Value:=#[.int .u32 0,.int .u32 0,.int .u32 0,.int .u32 0,.int .u32 0,.int .u32 0,.int .u32 0,.int .u32 0]
abbrev Kg:Array Value:=#[.int .u64 0,.int .u64 0,.int .u64 0,.int .u64 0,.int .u64 0,.int .u64 0,.int .u64 0,.int .u64 0]
abbrev Kh:Array Value:=#[.int .i64 0,.int .u64 0,.int .u64 0,.int .u64 0,.bool false,.bool false]
abbrev Ki:Array Value:=#[.int .u32 1779033703,.int .u32 3144134277,.int .u32 1013904242,.int .u32 2773480762,.int .u32 1359893119,.int .u32 2600822924,.int .u32 528734635,.int .u32 1541459225]
abbrev Kj:Array Value:=#[.int .i64 0,.int .i64 4,.int .i64 8,.int .i64 12,.int .i64 1,.int .i64 5,.int .i64 9,.int .i64 13,.int .i64 2,.int .i64 6,.int .i64 10,.int .i64 14,.int .i64 3,.int .i64 7,.int .i64 11,.int .i64 15,.int .i64 0,.int .i64 5,.int .i64 10,.int .i64 15,.int .i64 1,.int .i64 6,.int .i64 11,.int .i64 12,.int .i64 2,.int .i64 7,.int .i64 8,.int .i64 13,.int .i64 3,.int .i64 4,.int .i64 9,.int .i64 14]
end Go.Proofs.YthjoojnlnlmljaaGreat
