/- Loads of whole rows. No condition. -/
import Derived.Test.YthjoojnlnlmljaaGreatProg
import Derived.RangeFuncRecord
import Derived.Laws.Rows
import Derived.KernelRfl
set_option linter.all false
namespace Go.Proofs.YthjoojnlnlmljaaGreat
open Go
variable{ops:Array Oper}{rest:List Oper}{d:Option Tmp}{x:Operand}{ty:TypeId}{ps:String}{af:Array Edge}{a:Act}{w:World}{Q:Exit→Act→World→Prop}{t:TypeId}{cs:Array Value}{fr:Nat×Nat}
theorem L171(g:Nat)(hx:a.eval x=.pointer (some ⟨g,0,none⟩))(hg:w.heap[g]? =some (.cells cs t fr))(h:wpList Tryz.prog ops Q rest (a.put d (.agg cs)) w)(hi:(Tryz.prog.info? 171).map (·.size)=some cs.size:=by kernel_rfl):wpList Tryz.prog ops Q (⟨d,.load 171 x,ty,ps,af,none⟩::rest) a w:=wpList_load_row rfl 171 x rfl g hx t cs fr _ hg Tryz.underlying171 rfl hi h
theorem L26(g:Nat)(hx:a.eval x=.pointer (some ⟨g,0,none⟩))(hg:w.heap[g]? =some (.cells cs t fr))(h:wpList Tryz.prog ops Q rest (a.put d (.agg cs)) w)(hi:(Tryz.prog.info? 26).map (·.size)=some cs.size:=by kernel_rfl):wpList Tryz.prog ops Q (⟨d,.load 26 x,ty,ps,af,none⟩::rest) a w:=wpList_load_row rfl 26 x rfl g hx t cs fr _ hg Tryz.underlying26 rfl hi h
theorem L55(g:Nat)(hx:a.eval x=.pointer (some ⟨g,0,none⟩))(hg:w.heap[g]? =some (.cells cs t fr))(h:wpList Tryz.prog ops Q rest (a.put d (.agg cs)) w)(hi:(Tryz.prog.info? 55).map (·.size)=some cs.size:=by kernel_rfl):wpList Tryz.prog ops Q (⟨d,.load 55 x,ty,ps,af,none⟩::rest) a w:=wpList_load_row rfl 55 x rfl g hx t cs fr _ hg Tryz.underlying55 rfl hi h
theorem L73(g:Nat)(hx:a.eval x=.pointer (some ⟨g,0,none⟩))(hg:w.heap[g]? =some (.cells cs t fr))(h:wpList Tryz.prog ops Q rest (a.put d (.agg cs)) w)(hi:(Tryz.prog.info? 73).map (·.size)=some cs.size:=by kernel_rfl):wpList Tryz.prog ops Q (⟨d,.load 73 x,ty,ps,af,none⟩::rest) a w:=wpList_load_row rfl 73 x rfl g hx t cs fr _ hg Tryz.underlying73 rfl hi h
theorem L96(g:Nat)(hx:a.eval x=.pointer (some ⟨g,0,none⟩))(hg:w.heap[g]? =some (.cells cs t fr))(h:wpList Tryz.prog ops Q rest (a.put d (.agg cs)) w)(hi:(Tryz.prog.info? 96).map (·.size)=some cs.size:=by kernel_rfl):wpList Tryz.prog ops Q (⟨d,.load 96 x,ty,ps,af,none⟩::rest) a w:=wpList_load_row rfl 96 x rfl g hx t cs fr _ hg Tryz.underlying96 rfl hi h
end Go.Proofs.YthjoojnlnlmljaaGreat
