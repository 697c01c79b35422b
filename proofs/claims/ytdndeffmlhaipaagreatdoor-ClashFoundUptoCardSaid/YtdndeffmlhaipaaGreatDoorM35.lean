/- What a row's nodes hash is what the row below gave, in order. No condition. -/
import Derived.Test.YtdndeffmlhaipaaGreatDoorM32
set_option linter.all false
set_option maxRecDepth 100000
set_option maxHeartbeats 8000000
namespace Go.Proofs.YtdndeffmlhaipaaGreatDoor
open Go.ChangeShapes Go.WideShapes Go.ChangeAt Go.RowKit Go.Joins Go.Shelf Go.Maps
theorem js {α:Type}(n:Nat)(L:List α): ∀m,(yZ n L m).flatten=L.take (m*n)
 | 0=>by simp[yZ]
 | m+1=>by
  rw[zg,List.flatten_append,js n L m,List.flatten_singleton,Nat.add_mul,Nat.one_mul,List.take_add];rfl
theorem qbs {n:Nat}(hn:1≤n)(zs:List Int):(yJ n zs).flatten=zs:=by
 unfold yJ;split
 ·rename_i h;rw[h];rfl
 ·rw[js];have h:=YN (n:=zs.length) (d:=n) (j:=qL zs.length n) hn;exact List.take_of_length_le (by omega)
theorem Jo (f:Nat)(L:List (List Int)): ∀m,(YX f L m).flatten=(L.take (m*f)).flatten
 | 0=>by simp[YX]
 | m+1=>by
  rw[Zq,List.flatten_append,Jo f L m,List.flatten_singleton,Nat.add_mul,Nat.one_mul,List.take_add,List.flatten_append];rfl
theorem yz {t:TreeV}(h:t.validE=0)(row:Nat)(L:List (List Int)):(t.upZ row L).flatten=L.flatten:=by
 unfold TreeV.upZ;split
 ·simp
 ·rename_i hr;have hf:=YT h (row:=row) (n:=L.length) (by simpa using hr);rw[Jo];have h2:=YN (n:=L.length) (d:=t.fn) (j:=qL L.length t.fn) (by omega);rw[List.take_of_length_le (by omega)]
end Go.Proofs.YtdndeffmlhaipaaGreatDoor
