/- The rows of fields in memory, whole, by the program. No condition. -/
import Derived.Test.YtdndeffmlhaipaaGreatDoorM23
set_option linter.all false
set_option maxRecDepth 100000
set_option maxHeartbeats 8000000
namespace Go.Proofs.YtdndeffmlhaipaaGreatDoor
open Go.ChangeShapes Go.WideShapes Go.ChangeAt Go.RowKit Go.Joins Go.Shelf Go.Maps
attribute [local go_sem] Oper.semAt_some
def qfo (big:Bool)(w:World)(b:Nat):Prop:=
 ∃cur,w.heap[b]? =some (.cells cur 107 (0,0))∧ ∀k,k<9→ ∃nm why:Value,cur[k*5]? =some (.int .i64 ((k+1:Nat):Int))∧cur[k*5+1]? =some (.int .i64 (atB big (k+1):Nat))∧cur[k*5+2]? =some (.int .i64 (szB big (k+1):Nat))∧cur[k*5+3]? =some nm∧cur[k*5+4]? =some why∧nm.oneCell'=true∧why.oneCell'=true
theorem qdS (big:Bool)(w:World):
  Calls Tryz.prog 51 #[.int .i64 (kB big)] w fun e w'=>(∃b,e= .returned (.slice (some ⟨b,0,none⟩) 9 9)∧w.heap.size≤b∧qfo big w' b)∧Below w.heap.size w w':=by
 cases hie:Tryz.prog.info? 107 with
 | none=>have:=ZM;rw[hie]at this;cases this
 | some ie=>
 have hi:=ZM;rw[hie]at hi;simp only[Option.map_some,Option.some.injEq,Prod.mk.injEq]at hi;obtain⟨hz,hsz, -⟩:=hi
 cases big<;>
 ·simp only[kB,cond];go_enter Tryz.func51,Tryz.ntmps51
  go_wp2_with ((with_reducible show wpList _ _ _ (Oper.mk _ (Op.buildSlice _ _ _) _ _ _ _::_) _ _);refine wpList_buildSlice rfl 103 107 9 _ rfl rowCells ie _ Tryz.underlying103 hie hz (by rw[hsz];decide) (by rw[hsz];decide) (by rw[hsz];rfl) ?_)
  go_ret
  refine⟨⟨_,rfl,Nat.le_refl _,_,Wn w _,fun k hk=>?_⟩,Br.alloc Nl _⟩;have h:k=0∨k=1∨k=2∨k=3∨k=4∨k=5∨k=6∨k=7∨k=8:=by omega
  rcases h with rfl|rfl|rfl|rfl|rfl|rfl|rfl|rfl|rfl<;>exact⟨_,_,rfl,rfl,rfl,rfl,rfl,rfl,rfl⟩
end Go.Proofs.YtdndeffmlhaipaaGreatDoor
