/- How long a node's output is; a call whose answer the document fixes. No condition. -/
import Derived.Test.YthjoojnlnlmljaaGreatP33
import Derived.Test.YthjoojnlnlmljaaGreatP31
import Derived.Test.YthjoojnlnlmljaaGreatP36
import Derived.Deep.DeepCutAuto
set_option linter.all false
set_option maxRecDepth 100000
set_option maxHeartbeats 8000000
namespace Go.Proofs.YthjoojnlnlmljaaGreat
open Go.ChangeShapes Go.WideShapes Go.ChangeAt Go.RowKit Go.Joins Go.Shelf Go.Maps
attribute [local go_sem] Oper.semAt_some
theorem qgO {big:Bool}{q r ds:List Int}{la:Bool}{o:Int}(h:1≤o∧o≤(mB big:Nat)):((Ja big q r la o ds).length:Int)=o:=by
 unfold Ja;rw[List.length_take,zP];omega
theorem qce {t:TreeV}(h:t.validE=0)(rt:Bool):1≤t.outN rt∧t.outN rt≤(mB t.big:Nat):=by
 have o:=YI h;obtain⟨-,d1,d2,q,r, -⟩:=qo h
 cases rt
 ·show 1≤t.i∧t.i≤_;omega
 ·show 1≤t.d∧t.d≤_;omega
theorem qaV {t:TreeV}(h:t.validE=0)(o z1 z2:List Int)(row i:Nat)(la rt:Bool)(d:List Int):((t.node o z1 z2 row i la rt d).length:Int)=t.outN rt:=qgO (qce h rt)
theorem qaa {t:TreeV}(V:0≤t.l∧t.l≤4294967295){total o:Nat}(h:t.spotE total 0 o=0):(qB t total o 0).frm≤(qB t total o 0).to_∧(qB t total o 0).to_≤total∧(qB t total o 0).frm=o*t.ln∧o<nth (t.rowsOf total) 0:=by
 have r:t.err total=0:=by
  by_cases O:t.err total=0
  ·exact O
  ·unfold TreeV.spotE at h;rw[if_pos O]at h;exact absurd h O
 have q:o<nth (t.rowsOf total) 0:=by
  unfold TreeV.spotE at h;rw[if_neg (by simp[r])]at h;by_cases I:t.there total 0 o
  ·exact I.2.2
  ·rw[if_neg I]at h;omega
 obtain⟨G,Y,X,Z⟩:=Qx V r;have D:=qM r;have U: ¬(1≤0∧nth (t.rowsOf total) 0=1):=by omega
 unfold qB Qp;by_cases J:o=nth (t.rowsOf total) 0 - 1
 ·rw[zk U J];rw[D.first]at q;have:=J9 G q
  exact⟨by simpa using this,by simp,by simp,by rw[D.first];exact q⟩
 ·rw[zK U J];rw[D.first]at q J;have:=J9 (total:=total) (l:=t.ln) (k:=o+1) G (by omega)
  refine⟨?_,by simpa using this,by simp,by rw[D.first];exact q⟩;simp only[if_true];exact Nat.mul_le_mul_right _ (by omega)
end Go.Proofs.YthjoojnlnlmljaaGreat
namespace Go.Proofs.YthjoojnlnlmljaaGreat
open Go.ChangeShapes Go.WideShapes Go.ChangeAt Go.RowKit Go.Joins Go.Shelf Go.Maps
def TreeV.stepZ (t:TreeV)(kz z1 z2 zs:List Int)(leaf k:Nat):Yj:=
 (((t.lvlZ kz z1 z2 (t.leafZ kz z1 z2 zs) k).drop (qB t zs.length leaf (k+1)).frm).take (Qp t.fn (t.rowsOf zs.length) leaf k - (qB t zs.length leaf (k+1)).frm),
  ((t.lvlZ kz z1 z2 (t.leafZ kz z1 z2 zs) k).drop (Qp t.fn (t.rowsOf zs.length) leaf k+1)).take ((qB t zs.length leaf (k+1)).to_ - Qp t.fn (t.rowsOf zs.length) leaf k - 1))
def TreeV.stepsZ (t:TreeV)(kz z1 z2 zs:List Int)(leaf m:Nat):List Yj:=(List.range m).map (t.stepZ kz z1 z2 zs leaf)
theorem yM (t:TreeV)(q z1 z2 zs:List Int)(o:Nat){m k:Nat}(h:k<m):Yf (t.stepsZ q z1 z2 zs o m) k=t.stepZ q z1 z2 zs o k:=by
 unfold Yf TreeV.stepsZ;rw[Lg,List.getElem?_map,List.getElem?_range h];rfl
theorem Q1 (t:TreeV)(q z1 z2 zs:List Int)(o m:Nat):(t.stepsZ q z1 z2 zs o m).length=m:=by simp[TreeV.stepsZ]
end Go.Proofs.YthjoojnlnlmljaaGreat
