/- ShapeSpots: for every tree, total and place the law returns true. No condition. -/
import Derived.Test.YthjoojnlnlmljaaGreatG28
import Derived.Lib.SmallJoins
import Derived.Maps.AppendAt
set_option linter.all false
set_option maxRecDepth 100000
set_option maxHeartbeats 8000000
namespace Go.Proofs.YthjoojnlnlmljaaGreat
open Go.ChangeShapes Go.WideShapes Go.ChangeAt Go.RowKit Go.Joins Go.Shelf Go.Maps
attribute [local go_sem] Oper.semAt_some
theorem zX {f p total l:Nat}{L:List Nat}(h:RowsIs f p (lvs total l) L): ∀k,k<L.length→1≤nth L k
  | 0,_=>by rw[h.first];unfold lvs;omega
  | k+1,hk=>by
    have o:=zX h k (by omega);rw[h.next k hk];unfold yb;split
    · omega
    · exact Z7 o
end Go.Proofs.YthjoojnlnlmljaaGreat
namespace Go.Proofs.YthjoojnlnlmljaaGreat
open Go.ChangeShapes Go.WideShapes Go.ChangeAt Go.RowKit Go.Joins Go.Shelf Go.Maps
theorem qdF {t:TreeV}{total k at_:Nat}(q:t.err total=0)(D:k<(t.rowsOf total).length)(G:at_<nth (t.rowsOf total) k):
    t.spotE total k at_=0∧t.spotR total k at_=Qv t.fn t.ln total (t.rowsOf total) k at_:=by
  have o:t.there total k at_:=⟨by omega,by rw[Int.toNat_natCast];exact D,by rw[Int.toNat_natCast];exact G⟩;unfold TreeV.spotE TreeV.spotR;rw[if_neg (by simp[q]),if_pos o,if_pos ⟨q,o⟩,Int.toNat_natCast];exact⟨rfl,rfl⟩
end Go.Proofs.YthjoojnlnlmljaaGreat
namespace Go.Proofs.YthjoojnlnlmljaaGreat
open Go.ChangeShapes Go.WideShapes Go.ChangeAt Go.RowKit Go.Joins Go.Shelf Go.Maps
attribute [local go_sem] Oper.semAt_some
theorem ZW {w:World}{base size n:Nat}{e:TypeId}{v:Value}{q:List Value}(h:w.ownsRow base e size v n q): ∃a c,v= .slice a n c:=by
  rcases ownsRow_forms h with⟨h,o⟩|⟨g,D,h⟩
  · exact⟨none,0,by rw[h,o]⟩
  · exact⟨_,_,h⟩
end Go.Proofs.YthjoojnlnlmljaaGreat
