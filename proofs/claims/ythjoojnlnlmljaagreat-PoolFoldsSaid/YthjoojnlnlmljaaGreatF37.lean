/- How a tree's nodes lie over one another, for folding from the left: plain. No condition. -/
import Derived.Test.YthjoojnlnlmljaaGreatF34
import Derived.BigQuiet
import Derived.Deep.QuietTactic
import Derived.Test.YthjoojnlnlmljaaGreatF36
set_option linter.all false
set_option maxRecDepth 100000
set_option maxHeartbeats 8000000
namespace Go.Proofs.YthjoojnlnlmljaaGreat
open Go.ChangeShapes Go.WideShapes Go.ChangeAt Go.RowKit Go.Joins Go.Shelf Go.Maps
theorem qcg {f l total:Nat}{L:List Nat}{row at_:Nat}(h:1≤row∧nth L row=1):Qs f l total L row at_=⟨row,at_,0,nth L (row - 1),decide (at_=nth L row - 1),true⟩:=by
  unfold Qs;rw[if_pos h]
theorem jS {f l total:Nat}{L:List Nat}{row at_:Nat}(h: ¬(1≤row∧nth L row=1))(o:at_=nth L row - 1):Qs f l total L row at_=⟨row,at_,at_*(if row=0 then l else f),if row=0 then total else nth L (row - 1),true,false⟩:=by
  unfold Qs;rw[if_neg h,if_pos o]
theorem JU {f l total:Nat}{L:List Nat}{row at_:Nat}(h: ¬(1≤row∧nth L row=1))(o: ¬at_=nth L row - 1):Qs f l total L row at_=⟨row,at_,at_*(if row=0 then l else f),(at_+1)*(if row=0 then l else f),false,false⟩:=by
  unfold Qs;rw[if_neg h,if_neg o]
theorem qc7 {f p total l:Nat}{L:List Nat}(J:1≤l)(h:RowsIs f p (lvs total l) L){k A:Nat}(U:k<L.length)(D:A<nth L k):
    (Qs f l total L k A).row=k∧(Qs f l total L k A).at_=A∧(Qs f l total L k A).last=decide (A=nth L k - 1)∧(Qs f l total L k A).root=decide (1≤k∧nth L k=1)∧
      (Qs f l total L k A).frm≤(Qs f l total L k A).to_∧(A=0→(Qs f l total L k A).frm=0)∧
      ((Qs f l total L k A).to_=(Qs f l total L k A).frm→total=0∧A=0∧nth L k=1)∧
      (A=nth L k - 1→(Qs f l total L k A).to_=(if k=0 then total else nth L (k - 1)))∧
      (A≠nth L k - 1→(Qs f l total L k A).to_=(Qs f l total L k A).frm+(if k=0 then l else f)∧(Qs f l total L k (A+1)).frm=(Qs f l total L k A).to_)∧
      (Qs f l total L k A).to_≤(if k=0 then total else nth L (k - 1)):=by
  by_cases o:1≤k∧nth L k=1
  · have hp:=zH h (k - 1) (by omega)
    have I: ¬k=0:=by omega
    rw[qcg o];refine⟨rfl,rfl,rfl,by simp[o],Nat.zero_le _,fun _=>rfl,?_,?_,?_,?_⟩
    · show nth L (k - 1)=0→_
      intro e;omega
    · intro _;rw[if_neg I]
    · intro e;exact absurd (by omega) e
    · show nth L (k - 1)≤_
      rw[if_neg I];exact Nat.le_refl _
  · obtain⟨b1,b2,Z⟩:=Zt J h U D o
    have X:A*(if k=0 then l else f)<(if k=0 then total else nth L (k - 1))∨(k=0∧total=0):=by
      cases k with
      | zero=>
        by_cases G:total=0
        · exact .inr ⟨rfl,G⟩
        · refine .inl ?_
          rw[if_pos rfl,if_pos rfl];rw[h.first]at D;unfold lvs at D;by_cases S:A=0
          · subst S;simp;omega
          · exact ZP J (by omega)
      | succ j=>
        refine .inl ?_;rw[if_neg (by omega),if_neg (by omega)];obtain⟨e,hf⟩:=h.next_or U (fun e=>o ⟨by omega,e⟩);rw[e]at D;exact ZP (by omega) D
    have b5:1≤(if k=0 then l else f):=by
      by_cases G:k=0
      · rw[if_pos G];exact J
      · rw[if_neg G];exact Z (by omega)
    have b6:(A+1)*(if k=0 then l else f)=A*(if k=0 then l else f)+(if k=0 then l else f):=by rw[Nat.add_mul,Nat.one_mul]
    have Y:A=0→A*(if k=0 then l else f)=0:=fun e=>by rw[e,Nat.zero_mul]
    by_cases q:A=nth L k - 1
    · rw[jS o q]
      refine⟨rfl,rfl,(decide_eq_true q).symm,(decide_eq_false o).symm,b1,Y,?_,fun _=>rfl,fun e=>absurd q e,Nat.le_refl _⟩;show(if k=0 then total else nth L (k - 1))=A*(if k=0 then l else f)→_
      intro e;rcases X with X|⟨rfl,rfl⟩
      · omega
      · rw[if_pos rfl,if_pos rfl]at e
        have S:A=0:=by
          rcases Nat.eq_zero_or_pos A with O|O
          · exact O
          · have:=Nat.mul_pos O (show 0<l by omega);omega
        exact⟨rfl,S,by omega⟩
    · have c1:=b2 q
      have e3:(Qs f l total L k (A+1)).frm=(A+1)*(if k=0 then l else f):=by
        by_cases V:A+1=nth L k - 1
        · rw[jS o V]
        · rw[JU o V]
      rw[e3,JU o q];refine⟨rfl,rfl,(decide_eq_false q).symm,(decide_eq_false o).symm,?_,Y,?_,fun e=>absurd e q,fun _=>⟨b6,rfl⟩,c1⟩
      · show A*_≤(A+1)*_
        omega
      · show(A+1)*_=A*_→_
        intro e;omega
def TreeV.frC (t:TreeV)(total r i:Nat):Nat:=(t.spot total (r+1) i).frm
def TreeV.toC (t:TreeV)(total r i:Nat):Nat:=(t.spot total (r+1) i).to_
def TreeV.laC (t:TreeV)(total r i:Nat):Bool:=(t.spot total (r+1) i).last
def TreeV.segC (t:TreeV)(kz z1 z2:List Int)(L0:List (List Int))(total r i m:Nat):List Int:=(((t.lvlZ kz z1 z2 L0 r).drop (t.frC total r i)).take (m - t.frC total r i)).flatten
structure NodC (t:TreeV)(kz z1 z2:List Int)(L0:List (List Int))(total r i:Nat):Prop where
 spot:t.spot total (r+1) i=⟨r+1,i,t.frC total r i,t.toC total r i,t.laC total r i,decide (r+2=(t.rowsOf total).length)⟩
 lt:t.frC total r i<t.toC total r i
 le:t.toC total r i≤nth (t.rowsOf total) r
 first:i=0→t.frC total r i=0
 last:i+1=nth (t.rowsOf total) (r+1)→t.toC total r i=nth (t.rowsOf total) r
 next:i+1<nth (t.rowsOf total) (r+1)→t.frC total r (i+1)=t.toC total r i
 node:Qi (t.lvlZ kz z1 z2 L0 (r+1)) i=t.node kz z1 z2 (r+1) i (t.laC total r i) (decide (r+2=(t.rowsOf total).length)) (t.segC kz z1 z2 L0 total r i (t.toC total r i))
theorem qii {t:TreeV}{total:Nat}(hl:0≤t.l∧t.l≤4294967295)(o:t.err total=0)(kz z1 z2:List Int){L0:List (List Int)}(V:L0.length=lvs total t.ln)(O: ∀z∈L0,z.length≤64){r i:Nat}(U:r+1<(t.rowsOf total).length)(X:i<nth (t.rowsOf total) (r+1)):
  NodC t kz z1 z2 L0 total r i:=by
 have G:=qM o;have Z:1≤t.ln:=by have:=(qq (qG o)).2.2.2.2.2.2.2.2.1;unfold TreeV.ln;omega
 obtain⟨f1,f2,f3,f4,f5,f6,f7,S,f9,J⟩:=qc7 Z G (k:=r+1) (A:=i) U X;have aa:=zH G r (by omega);rw[Nat.add_sub_cancel,if_neg (by omega: ¬r+1=0)]at S J;have I:decide (1≤r+1∧nth (t.rowsOf total) (r+1)=1)=decide (r+2=(t.rowsOf total).length):=by
  rw[decide_eq_decide];refine⟨fun h=>?_,fun h=>⟨by omega,?_⟩⟩
  ·rcases Nat.lt_or_ge (r+2) (t.rowsOf total).length with D|D
   ·exact absurd h.2 (G.more (r+1) (by omega) D)
   ·omega
  ·have:=G.last
   rw[show(t.rowsOf total).length - 1=r+1 by omega]at this;exact this
 have ab:=QV o kz z1 z2 V O r (by omega);have Y:=QV o kz z1 z2 V O (r+1) U;have hD:(t.upZ (r+1) (t.lvlZ kz z1 z2 L0 r)).length=nth (t.rowsOf total) (r+1):=by
  rw[←Y];exact(Qo ..).symm
 obtain⟨g1,a,b,q,g3,g4,g5⟩:=qbU o kz z1 z2 V O U rfl rfl (i:=i) (by rw[hD];exact X);have e1:t.frC total r i=a:=by unfold TreeV.frC;rw[q]
 have e2:t.toC total r i=b:=by unfold TreeV.toC;rw[q]
 have e3:t.laC total r i=decide (i+1=(t.upZ (r+1) (t.lvlZ kz z1 z2 L0 r)).length):=by unfold TreeV.laC;rw[q]
 have e4:t.rootZ (r+1) (t.lvlZ kz z1 z2 L0 r).length=decide (r+2=(t.rowsOf total).length):=by
  rw[←I];have:(t.spot total (r+1) i).root=decide (1≤r+1∧nth (t.rowsOf total) (r+1)=1):=f4
  rw[q]at this;exact this
 refine⟨?_,?_,?_,fun h=>?_,fun h=>?_,fun h=>?_,?_⟩
 ·rw[q,e1,e2,e3,e4]
 ·rcases Nat.lt_or_ge (t.frC total r i) (t.toC total r i)with h|h
  ·exact h
  ·exfalso
   have D:(Qs t.fn t.ln total (t.rowsOf total) (r+1) i).to_=(Qs t.fn t.ln total (t.rowsOf total) (r+1) i).frm:=Nat.le_antisymm h f5;obtain⟨-,k2,k3⟩:=f7 D;have h3:=f6 k2;have h4:=S (by omega);omega
 ·exact J
 ·exact f6 h
 ·exact S (by omega)
 ·exact(f9 (by omega)).2
 ·show Qi (t.rowZ kz z1 z2 (r+1) _ _ _) i=_
  unfold TreeV.segC;rw[e1,e2,e3,←g5,←e4];unfold TreeV.rowZ Qi;rw[Lg,List.getElem?_map,List.getElem?_range (by rw[hD];exact X)];rfl
def qhu (t:TreeV)(total row:Nat)(m:Nat→Nat):Prop:= ∀r,row≤r→r+1<(t.rowsOf total).length→m (r+1)<nth (t.rowsOf total) (r+1)∧t.frC total r (m (r+1))≤m r∧m r<t.toC total r (m (r+1))
theorem qam {t:TreeV}{kz z1 z2:List Int}{L0:List (List Int)}{total r i m:Nat}(q:t.frC total r i≤m)(o:m<(t.lvlZ kz z1 z2 L0 r).length):t.segC kz z1 z2 L0 total r i (m+1)=t.segC kz z1 z2 L0 total r i m++Qi (t.lvlZ kz z1 z2 L0 r) m:=by
 unfold TreeV.segC;generalize t.frC total r i=f at*;generalize t.lvlZ kz z1 z2 L0 r=L at*;rw[show m+1 - f=m - f+1 by omega,List.take_add_one,List.flatten_append,List.getElem?_drop,show f+(m - f)=m by omega,List.getElem?_eq_getElem o];unfold Qi;rw[Lg,List.getElem?_eq_getElem o];simp
theorem TreeV.segC_self (t:TreeV)(kz z1 z2:List Int)(L0:List (List Int))(total r i:Nat):t.segC kz z1 z2 L0 total r i (t.frC total r i)=[]:=by
 unfold TreeV.segC;simp
end Go.Proofs.YthjoojnlnlmljaaGreat
namespace Go.Proofs.YthjoojnlnlmljaaGreat
open Go.ChangeShapes Go.WideShapes Go.ChangeAt Go.RowKit Go.Joins Go.Shelf Go.Maps
attribute [local go_sem] Oper.semAt_some
theorem ListO.get {B:Nat}{w:World}{v:Value}{L:List (List Int)}(h:ListO B w v L){i:Nat}(O:i<L.length): ∃g o x,v= .slice (some ⟨g,0,none⟩) L.length o∧g<w.heap.size∧w.cell? ⟨g,i,none⟩=some x∧OwnB B w x (Qi L i):=by
 obtain⟨vs,D,J⟩:=h;have V:vs.length=L.length:=by have:=D.1;simpa using this
 rcases D.2 with⟨rfl,Z⟩|⟨g,o,G,rfl,S,q,U,Y,X,I⟩
 ·omega
 ·refine⟨g,o,vs.getD i undef,rfl,(Ai q).1,?_,J i O⟩;rw[qa q i];have e:G.toList[i]? =vs[i]? :=by rw[←I,List.getElem?_take,if_pos (by omega)]
  rw[←Array.getElem?_toList,e,Lg,List.getElem?_eq_getElem (by omega)];rfl
end Go.Proofs.YthjoojnlnlmljaaGreat
