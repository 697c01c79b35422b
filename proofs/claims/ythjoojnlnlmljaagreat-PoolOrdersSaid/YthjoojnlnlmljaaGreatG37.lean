/- How a tree's nodes lie over one another, for folding from the left: plain. No condition. -/
import Derived.Test.YthjoojnlnlmljaaGreatG34
import Derived.BigQuiet
import Derived.Deep.QuietTactic
import Derived.Test.YthjoojnlnlmljaaGreatG36
set_option linter.all false
set_option maxRecDepth 100000
set_option maxHeartbeats 8000000
namespace Go.Proofs.YthjoojnlnlmljaaGreat
open Go.ChangeShapes Go.WideShapes Go.ChangeAt Go.RowKit Go.Joins Go.Shelf Go.Maps
theorem qcM {f l total:Nat}{L:List Nat}{row at_:Nat}(h:1≤row∧nth L row=1):Qv f l total L row at_=⟨row,at_,0,nth L (row - 1),decide (at_=nth L row - 1),true⟩:=by
  unfold Qv;rw[if_pos h]
theorem Jl {f l total:Nat}{L:List Nat}{row at_:Nat}(h: ¬(1≤row∧nth L row=1))(o:at_=nth L row - 1):Qv f l total L row at_=⟨row,at_,at_*(if row=0 then l else f),if row=0 then total else nth L (row - 1),true,false⟩:=by
  unfold Qv;rw[if_neg h,if_pos o]
theorem qam {f l total:Nat}{L:List Nat}{row at_:Nat}(h: ¬(1≤row∧nth L row=1))(o: ¬at_=nth L row - 1):Qv f l total L row at_=⟨row,at_,at_*(if row=0 then l else f),(at_+1)*(if row=0 then l else f),false,false⟩:=by
  unfold Qv;rw[if_neg h,if_neg o]
theorem qdC {f p total l:Nat}{L:List Nat}(O:1≤l)(h:RowsIs f p (lvs total l) L){k A:Nat}(V:k<L.length)(D:A<nth L k):
    (Qv f l total L k A).row=k∧(Qv f l total L k A).at_=A∧(Qv f l total L k A).last=decide (A=nth L k - 1)∧(Qv f l total L k A).root=decide (1≤k∧nth L k=1)∧
      (Qv f l total L k A).frm≤(Qv f l total L k A).to_∧(A=0→(Qv f l total L k A).frm=0)∧
      ((Qv f l total L k A).to_=(Qv f l total L k A).frm→total=0∧A=0∧nth L k=1)∧
      (A=nth L k - 1→(Qv f l total L k A).to_=(if k=0 then total else nth L (k - 1)))∧
      (A≠nth L k - 1→(Qv f l total L k A).to_=(Qv f l total L k A).frm+(if k=0 then l else f)∧(Qv f l total L k (A+1)).frm=(Qv f l total L k A).to_)∧
      (Qv f l total L k A).to_≤(if k=0 then total else nth L (k - 1)):=by
  by_cases o:1≤k∧nth L k=1
  · have hp:=zX h (k - 1) (by omega)
    have I: ¬k=0:=by omega
    rw[qcM o];refine⟨rfl,rfl,rfl,by simp[o],Nat.zero_le _,fun _=>rfl,?_,?_,?_,?_⟩
    · show nth L (k - 1)=0→_
      intro e;omega
    · intro _;rw[if_neg I]
    · intro e;exact absurd (by omega) e
    · show nth L (k - 1)≤_
      rw[if_neg I];exact Nat.le_refl _
  · obtain⟨b1,b2,b3⟩:=ZH O h V D o
    have Z:A*(if k=0 then l else f)<(if k=0 then total else nth L (k - 1))∨(k=0∧total=0):=by
      cases k with
      | zero=>
        by_cases G:total=0
        · exact .inr ⟨rfl,G⟩
        · refine .inl ?_
          rw[if_pos rfl,if_pos rfl];rw[h.first]at D;unfold lvs at D;by_cases J:A=0
          · subst J;simp;omega
          · exact Z9 O (by omega)
      | succ j=>
        refine .inl ?_;rw[if_neg (by omega),if_neg (by omega)];obtain⟨e,hf⟩:=h.next_or V (fun e=>o ⟨by omega,e⟩);rw[e]at D;exact Z9 (by omega) D
    have b5:1≤(if k=0 then l else f):=by
      by_cases G:k=0
      · rw[if_pos G];exact O
      · rw[if_neg G];exact b3 (by omega)
    have b6:(A+1)*(if k=0 then l else f)=A*(if k=0 then l else f)+(if k=0 then l else f):=by rw[Nat.add_mul,Nat.one_mul]
    have X:A=0→A*(if k=0 then l else f)=0:=fun e=>by rw[e,Nat.zero_mul]
    by_cases q:A=nth L k - 1
    · rw[Jl o q]
      refine⟨rfl,rfl,(decide_eq_true q).symm,(decide_eq_false o).symm,b1,X,?_,fun _=>rfl,fun e=>absurd q e,Nat.le_refl _⟩;show(if k=0 then total else nth L (k - 1))=A*(if k=0 then l else f)→_
      intro e;rcases Z with Z|⟨rfl,rfl⟩
      · omega
      · rw[if_pos rfl,if_pos rfl]at e
        have J:A=0:=by
          rcases Nat.eq_zero_or_pos A with U|U
          · exact U
          · have:=Nat.mul_pos U (show 0<l by omega);omega
        exact⟨rfl,J,by omega⟩
    · have c1:=b2 q
      have e3:(Qv f l total L k (A+1)).frm=(A+1)*(if k=0 then l else f):=by
        by_cases Y:A+1=nth L k - 1
        · rw[Jl o Y]
        · rw[qam o Y]
      rw[e3,qam o q];refine⟨rfl,rfl,(decide_eq_false q).symm,(decide_eq_false o).symm,?_,X,?_,fun e=>absurd e q,fun _=>⟨b6,rfl⟩,c1⟩
      · show A*_≤(A+1)*_
        omega
      · show(A+1)*_=A*_→_
        intro e;omega
def TreeV.frC (t:TreeV)(total r i:Nat):Nat:=(t.spot total (r+1) i).frm
def TreeV.toC (t:TreeV)(total r i:Nat):Nat:=(t.spot total (r+1) i).to_
def TreeV.laC (t:TreeV)(total r i:Nat):Bool:=(t.spot total (r+1) i).last
def TreeV.segC (t:TreeV)(kz z1 z2:List Int)(L0:List (List Int))(total r i m:Nat):List Int:=(((t.lvlZ kz z1 z2 L0 r).drop (t.frC total r i)).take (m - t.frC total r i)).flatten
structure NodC (t:TreeV)(kz z1 z2:List Int)(L0:List (List Int))(total r i:Nat):Prop where
 spot:t.spot total (r+1) i=⟨r+1,i,t.frC total r i,t.toC total r i,t.laC total r i,decide (r+2=(t.rowsOf total).length)⟩
 lt:t.frC total r i<t.toC total r i
 le:t.toC total r i≤nth (t.rowsOf total) r
 first:i=0→t.frC total r i=0
 last:i+1=nth (t.rowsOf total) (r+1)→t.toC total r i=nth (t.rowsOf total) r
 next:i+1<nth (t.rowsOf total) (r+1)→t.frC total r (i+1)=t.toC total r i
 node:qQ (t.lvlZ kz z1 z2 L0 (r+1)) i=t.node kz z1 z2 (r+1) i (t.laC total r i) (decide (r+2=(t.rowsOf total).length)) (t.segC kz z1 z2 L0 total r i (t.toC total r i))
theorem qiV {t:TreeV}{total:Nat}(hl:0≤t.l∧t.l≤4294967295)(o:t.err total=0)(kz z1 z2:List Int){L0:List (List Int)}(O:L0.length=lvs total t.ln)(Y: ∀z∈L0,z.length≤64){r i:Nat}(V:r+1<(t.rowsOf total).length)(U:i<nth (t.rowsOf total) (r+1)):
  NodC t kz z1 z2 L0 total r i:=by
 have I:=qM o;have aa:1≤t.ln:=by have:=(qq (qW o)).2.2.2.2.2.2.2.2.1;unfold TreeV.ln;omega
 obtain⟨f1,f2,f3,f4,f5,f6,f7,Z,f9,J⟩:=qdC aa I (k:=r+1) (A:=i) V U;have ab:=zX I r (by omega);rw[Nat.add_sub_cancel,if_neg (by omega: ¬r+1=0)]at Z J;have G:decide (1≤r+1∧nth (t.rowsOf total) (r+1)=1)=decide (r+2=(t.rowsOf total).length):=by
  rw[decide_eq_decide];refine⟨fun h=>?_,fun h=>⟨by omega,?_⟩⟩
  ·rcases Nat.lt_or_ge (r+2) (t.rowsOf total).length with D|D
   ·exact absurd h.2 (I.more (r+1) (by omega) D)
   ·omega
  ·have:=I.last
   rw[show(t.rowsOf total).length - 1=r+1 by omega]at this;exact this
 have ac:=Q4 o kz z1 z2 O Y r (by omega);have X:=Q4 o kz z1 z2 O Y (r+1) V;have hD:(t.upZ (r+1) (t.lvlZ kz z1 z2 L0 r)).length=nth (t.rowsOf total) (r+1):=by
  rw[←X];exact(qK ..).symm
 obtain⟨g1,a,b,q,g3,g4,g5⟩:=qcq o kz z1 z2 O Y V rfl rfl (i:=i) (by rw[hD];exact U);have e1:t.frC total r i=a:=by unfold TreeV.frC;rw[q]
 have e2:t.toC total r i=b:=by unfold TreeV.toC;rw[q]
 have e3:t.laC total r i=decide (i+1=(t.upZ (r+1) (t.lvlZ kz z1 z2 L0 r)).length):=by unfold TreeV.laC;rw[q]
 have e4:t.rootZ (r+1) (t.lvlZ kz z1 z2 L0 r).length=decide (r+2=(t.rowsOf total).length):=by
  rw[←G];have:(t.spot total (r+1) i).root=decide (1≤r+1∧nth (t.rowsOf total) (r+1)=1):=f4
  rw[q]at this;exact this
 refine⟨?_,?_,?_,fun h=>?_,fun h=>?_,fun h=>?_,?_⟩
 ·rw[q,e1,e2,e3,e4]
 ·rcases Nat.lt_or_ge (t.frC total r i) (t.toC total r i)with h|h
  ·exact h
  ·exfalso
   have D:(Qv t.fn t.ln total (t.rowsOf total) (r+1) i).to_=(Qv t.fn t.ln total (t.rowsOf total) (r+1) i).frm:=Nat.le_antisymm h f5;obtain⟨-,k2,k3⟩:=f7 D;have h3:=f6 k2;have h4:=Z (by omega);omega
 ·exact J
 ·exact f6 h
 ·exact Z (by omega)
 ·exact(f9 (by omega)).2
 ·show qQ (t.rowZ kz z1 z2 (r+1) _ _ _) i=_
  unfold TreeV.segC;rw[e1,e2,e3,←g5,←e4];unfold TreeV.rowZ qQ;rw[Lg,List.getElem?_map,List.getElem?_range (by rw[hD];exact U)];rfl
def qh8 (t:TreeV)(total row:Nat)(m:Nat→Nat):Prop:= ∀r,row≤r→r+1<(t.rowsOf total).length→m (r+1)<nth (t.rowsOf total) (r+1)∧t.frC total r (m (r+1))≤m r∧m r<t.toC total r (m (r+1))
theorem qaP {t:TreeV}{kz z1 z2:List Int}{L0:List (List Int)}{total r i m:Nat}(q:t.frC total r i≤m)(o:m<(t.lvlZ kz z1 z2 L0 r).length):t.segC kz z1 z2 L0 total r i (m+1)=t.segC kz z1 z2 L0 total r i m++qQ (t.lvlZ kz z1 z2 L0 r) m:=by
 unfold TreeV.segC;generalize t.frC total r i=f at*;generalize t.lvlZ kz z1 z2 L0 r=L at*;rw[show m+1 - f=m - f+1 by omega,List.take_add_one,List.flatten_append,List.getElem?_drop,show f+(m - f)=m by omega,List.getElem?_eq_getElem o];unfold qQ;rw[Lg,List.getElem?_eq_getElem o];simp
theorem TreeV.segC_self (t:TreeV)(kz z1 z2:List Int)(L0:List (List Int))(total r i:Nat):t.segC kz z1 z2 L0 total r i (t.frC total r i)=[]:=by
 unfold TreeV.segC;simp
end Go.Proofs.YthjoojnlnlmljaaGreat
