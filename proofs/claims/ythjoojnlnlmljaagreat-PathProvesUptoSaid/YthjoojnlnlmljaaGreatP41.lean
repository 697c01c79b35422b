/- What a path leads to, by the reference: quernref11.Root. No condition. -/
import Derived.Test.YthjoojnlnlmljaaGreatP37
import Derived.Test.YthjoojnlnlmljaaGreatP40
set_option linter.all false
set_option maxRecDepth 100000
set_option maxHeartbeats 8000000
namespace Go.Proofs.YthjoojnlnlmljaaGreat
open Go.ChangeShapes Go.WideShapes Go.ChangeAt Go.RowKit Go.Joins Go.Shelf Go.Maps
open Go.Lib (hid)
attribute [local go_sem] Oper.semAt_some
def SpotAll (w:World)(g:Nat)(S:SpotV)(j:Nat):Prop:=
 w.cell? ⟨g,j*6,none⟩=some (.int .i64 (S.row:Nat))∧w.cell? ⟨g,j*6+1,none⟩=some (.int .u64 (S.at_:Nat))∧w.cell? ⟨g,j*6+2,none⟩=some (.int .u64 (S.frm:Nat))∧w.cell? ⟨g,j*6+3,none⟩=some (.int .u64 (S.to_:Nat))∧w.cell? ⟨g,j*6+4,none⟩=some (.bool S.last)∧w.cell? ⟨g,j*6+5,none⟩=some (.bool S.root)
theorem SpotAll.below {w w':World}{g:Nat}{S:SpotV}{j:Nat}(h:SpotAll w g S j)(q:g<w.heap.size)(o:Below w.heap.size w w'):SpotAll w' g S j:=by
 obtain⟨G,r,O,D,J,I⟩:=h;exact⟨(o.cell (p:=⟨g,_,none⟩) q).trans G,(o.cell (p:=⟨g,_,none⟩) q).trans r,(o.cell (p:=⟨g,_,none⟩) q).trans O,(o.cell (p:=⟨g,_,none⟩) q).trans D,(o.cell (p:=⟨g,_,none⟩) q).trans J,(o.cell (p:=⟨g,_,none⟩) q).trans I⟩
theorem qci {t:TreeV}{total o:Nat}{w:World}{b g m r:Nat}(h:w.ownsRow b 96 6 (.slice (some ⟨g,0,none⟩) (m+1) r) (m+1) (zv t total o (m+1))):
  g<w.heap.size∧ ∀j,j<m+1→SpotAll w g (qB t total o j) j:=by
 refine⟨(h.lt g (by simp[Value.ownBlock])).2,fun j q=>⟨?_,?_,?_,?_,?_,?_⟩⟩
 · rw[show j*6=6*j+0 by omega];exact(h.cellAt (6*j+0) (by omega)).trans (yE t total o (m+1) j 0 q (by omega))
 · rw[show j*6+1=6*j+1 by omega];exact(h.cellAt (6*j+1) (by omega)).trans (yE t total o (m+1) j 1 q (by omega))
 · rw[show j*6+2=6*j+2 by omega];exact(h.cellAt (6*j+2) (by omega)).trans (yE t total o (m+1) j 2 q (by omega))
 · rw[show j*6+3=6*j+3 by omega];exact(h.cellAt (6*j+3) (by omega)).trans (yE t total o (m+1) j 3 q (by omega))
 · rw[show j*6+4=6*j+4 by omega];exact(h.cellAt (6*j+4) (by omega)).trans (yE t total o (m+1) j 4 q (by omega))
 · rw[show j*6+5=6*j+5 by omega];exact(h.cellAt (6*j+5) (by omega)).trans (yE t total o (m+1) j 5 q (by omega))
theorem qeU (t:TreeV)(G:0≤t.l∧t.l≤4294967295)(total:Nat)(I:(total:Int)≤18446744073709551615)(o:Nat)(U:t.spotE total 0 o=0)(w:World):
  Calls Tryz.prog 70 #[t.val,.int .u64 total,.int .u64 o] w fun e w'=> ∃g D,e= .returned (.tuple #[.slice (some ⟨g,0,none⟩) ((t.rowsOf total).length - 1+1) D,.int .i64 0])∧
   g<w'.heap.size∧(∀j,j<(t.rowsOf total).length - 1+1→SpotAll w' g (qB t total o j) j)∧Below w.heap.size w w':=by
 have F:=YN G I U;have J:(t.rowsOf total).length - 1+1=(t.rowsOf total).length:=by have:=F.two;omega
 refine(qcq t total o F.two F.most (hid fun k r w=>?_) (hid fun k r w=>?_) (hid F.cells) w).mono ?_
 · have:=yC t G total I (k:Nat) (Qp t.fn (t.rowsOf total) o k) w
   rw[(F.spot k r).1,(F.spot k r).2]at this;exact this
 · have:=j8 t G total I (k:Nat) (Qp t.fn (t.rowsOf total) o k) (F.at_ k (by omega)) w
   rw[(F.par k r).1,(F.par k r).2]at this;exact this
 · rintro e w' ⟨v,rfl,q,O⟩
   obtain⟨g,D,rfl⟩:=ownsRow_form q (by have:=F.two;omega);rw[←J]at q⊢;exact⟨g,D,rfl,(qci q).1,(qci q).2,O⟩
end Go.Proofs.YthjoojnlnlmljaaGreat
