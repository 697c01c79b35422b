/- Plain laws on the rows of a tree and on a node's place. No condition. -/
import Derived.Test.YtdndeffmlhaipaaGreatDoorM05
set_option linter.all false
set_option maxRecDepth 100000
set_option maxHeartbeats 8000000
namespace Go.Proofs.YtdndeffmlhaipaaGreatDoor
open Go.ChangeShapes Go.WideShapes Go.ChangeAt Go.RowKit
def QG (f p row n:Nat):Nat:=if f=0∨row=p - 1 then 1 else qL n f
theorem zZ (f p:Nat): ∀(fuel row n:Nat),p≤fuel+row→row+1≤p→
    0<(qB f p fuel row n).length∧row+(qB f p fuel row n).length≤p∧
    nth (qB f p fuel row n) 0=QG f p row n∧
    (∀j,j+1<(qB f p fuel row n).length→nth (qB f p fuel row n) j≠1∧nth (qB f p fuel row n) (j+1)=QG f p (row+(j+1)) (nth (qB f p fuel row n) j))∧
    nth (qB f p fuel row n) ((qB f p fuel row n).length - 1)=1
  | 0,row,n,h1,h2=>by omega
  | fuel+1,row,n,h1,h2=>by
    have e:qB f p (fuel+1) row n=QG f p row n::(if QG f p row n=1 then [] else qB f p fuel (row+1) (QG f p row n)):=rfl;rw[e];by_cases hm:QG f p row n=1
    · simp only[hm,if_true,List.length_singleton]
      refine⟨by omega,by omega,rfl,fun j hj=>by omega,rfl⟩
    · simp only[hm,if_false,List.length_cons]
      have hrow:row+1+1≤p:=by
        unfold QG at hm;by_cases hc:f=0∨row=p - 1
        · rw[if_pos hc]at hm;exact absurd rfl hm
        · omega
      obtain⟨i1,i2,i3,i4,i5⟩:=zZ f p fuel (row+1) (QG f p row n) (by omega) hrow;refine⟨by omega,by omega,rfl,?_,?_⟩
      · intro j hj
        cases j with
        | zero=>
          refine⟨hm,?_⟩;rw[yv,i3];rfl
        | succ j=>
          obtain⟨k1,k2⟩:=i4 j (by omega);refine⟨k1,?_⟩;rw[yv,yv,k2];congr 1
          omega
      · obtain⟨k,hk⟩: ∃k,(qB f p fuel (row+1) (QG f p row n)).length=k+1:=⟨_,(Nat.succ_pred_eq_of_pos i1).symm⟩
        rw[hk]at i5⊢;exact i5
structure RowsIs (f p n0:Nat)(L:List Nat):Prop where
  len:2≤L.length
  most:L.length≤p
  first:nth L 0=n0
  next: ∀k,k+1<L.length→nth L (k+1)=QG f p (k+1) (nth L k)
  more: ∀k,1≤k→k+1<L.length→nth L k≠1
  last:nth L (L.length - 1)=1
theorem qdR (f p n:Nat)(hp:2≤p):RowsIs f p n (qT f p n):=by
  obtain⟨i1,i2,i3,i4,i5⟩:=zZ f p p 1 n (by omega) (by omega);refine⟨?_,?_,rfl,?_,?_,?_⟩
  · simp only[qT,List.length_cons];omega
  · simp only[qT,List.length_cons];omega
  · intro k hk
    simp only[qT,List.length_cons]at hk
    cases k with
    | zero=>exact i3
    | succ k=>
      have:=(i4 k (by omega)).2
      show nth (qB f p p 1 n) (k+1)=QG f p (k+1+1) (nth (qB f p p 1 n) k)
      rw[this];congr 1;omega
  · intro k hk hk2
    simp only[qT,List.length_cons]at hk2;obtain⟨j,rfl⟩: ∃j,k=j+1:=⟨k - 1,by omega⟩;exact(i4 j (by omega)).1
  · obtain⟨k,hk⟩: ∃k,(qB f p p 1 n).length=k+1:=⟨_,(Nat.succ_pred_eq_of_pos i1).symm⟩
    simp only[qT,List.length_cons];rw[hk]at i5⊢;exact i5
theorem qe0 {m d k:Nat}(hd:1≤d)(h:qL m d≤k):m≤k*d:=by
  unfold qL at h;have hdm:=Nat.div_add_mod m d;split at h
  · have h2:m/d*d≤k*d:=Nat.mul_le_mul_right d h
    have h3:m/d*d=m:=by rw[Nat.mul_comm];omega
    omega
  · have h2:(m/d+1)*d≤k*d:=Nat.mul_le_mul_right d h
    have h3:m/d*d+m%d=m:=by rw[Nat.mul_comm];omega
    have h4:=Nat.mod_lt m (show d>0 by omega);rw[Nat.add_mul]at h2;omega
def TreeV.rowsOf (t:TreeV)(total:Nat):List Nat:=qT t.fn t.pn (lvs total t.ln)
theorem qM {t:TreeV}{total:Nat}(h:t.err total=0):RowsIs t.fn t.pn (lvs total t.ln) (t.rowsOf total):=by
  have hv:=qd (Qz h);exact qdR _ _ _ (by unfold TreeV.pn;omega)
end Go.Proofs.YtdndeffmlhaipaaGreatDoor
