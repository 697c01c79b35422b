/- The rows' listed variables: the table as a walk wants it; a world that holds them. No condition. -/
import Derived.Test.YtdndeffmlhaipaaGreatDoorM21
import Derived.Test.YtdndeffmlhaipaaGreatDoorTie
import Derived.Test.YtdndeffmlhaipaaGreatDoorCards
import Derived.Deep.DeepHandedRow
import Derived.Lib.LaidU8
set_option linter.all false
set_option maxRecDepth 100000
set_option maxHeartbeats 8000000
namespace Go.Proofs.YtdndeffmlhaipaaGreatDoor
open Go.ChangeShapes Go.WideShapes Go.ChangeAt Go.RowKit Go.Joins Go.Shelf Go.Maps
theorem jn {W:World}(h:laidMet Tryz.prog Rows.clashSearchesRow.laid W):TabW W:=by
 obtain⟨g',t',cs,fuel,p,hg',ht',hvar,hd⟩:=Lib.laidMet.reads h (n:=qaw) (d:=Rows.laid_internal_strconv_uint64pow10) (List.Mem.tail _ (List.Mem.tail _ (List.Mem.head _)));have hg:Tryz.prog.globalNamed qaw=some 0:=by kernel_rfl
 have ht:(Tryz.prog.globals[0]?).map (·.type)=some 170:=by kernel_rfl
 obtain rfl:=Option.some.inj (hg.symm.trans hg');obtain rfl:=Option.some.inj (ht.symm.trans ht');have e:(Rows.laid_internal_strconv_uint64pow10:DataW Unit)=Lib.tabData .u64 Lib.pow10Tab:=by kernel_rfl
 rw[e]at hd;unfold TabW Lib.TabIs;rw[hvar];have:=Lib.cells_of_tab Tryz.underlying170 Tryz.underlying54 (by kernel_rfl) (by kernel_rfl) hd
 rw[←this]
def Jv (d:DataW Unit):Array Value:=match d with
 | .agg l=>(l.map fun x=>match x with| .lit (.int k z)=>Value.int k z|_=>undef).toArray
 | _=> #[]
def Jc (c:Array Value):Obj→Obj
 | .cells _ t frozen=> .cells c t frozen
 | o=>o
noncomputable def yX (os:Os):World:=
 { World.holding Tryz.prog os ⟨#[],#[],[]⟩with heap:=(((World.holding Tryz.prog os ⟨#[],#[],[]⟩).heap.modify 0 (Jc (Jv Rows.laid_internal_strconv_uint64pow10))).modify 1 (Jc (Jv Rows.laid_math_bits_deBruijn32tab))).modify 2 (Jc (Jv Rows.laid_math_bits_deBruijn64tab)) }
end Go.Proofs.YtdndeffmlhaipaaGreatDoor
