/- Plain laws on the rows of a tree and on a node's place. No condition. -/
import Derived.Test.YtdndeffmlhaipaaGreatDoorS05
set_option linter.all false
set_option maxRecDepth 100000
set_option maxHeartbeats 8000000
namespace Go.Proofs.YtdndeffmlhaipaaGreatDoor
open Go.ChangeShapes Go.WideShapes Go.ChangeAt Go.RowKit
def Q1 (f p row n:Nat):Nat:=if f=0∨row=p - 1 then 1 else Qc n f
theorem ZJ (f p:Nat): ∀(fuel row n:Nat),p≤fuel+row→row+1≤p→
    0<(qV f p fuel row n).length∧row+(qV f p fuel row n).length≤p∧
    nth (qV f p fuel row n) 0=Q1 f p row n∧
    (∀j,j+1<(qV f p fuel row n).length→nth (qV f p fuel row n) j≠1∧nth (qV f p fuel row n) (j+1)=Q1 f p (row+(j+1)) (nth (qV f p fuel row n) j))∧
    nth (qV f p fuel row n) ((qV f p fuel row n).length - 1)=1
  | 0,row,n,h1,h2=>by omega
  | fuel+1,row,n,h1,h2=>by
    have e:qV f p (fuel+1) row n=Q1 f p row n::(if Q1 f p row n=1 then [] else qV f p fuel (row+1) (Q1 f p row n)):=rfl;rw[e];by_cases hm:Q1 f p row n=1
    · simp only[hm,if_true,List.length_singleton]
      refine⟨by omega,by omega,rfl,fun j hj=>by omega,rfl⟩
    · simp only[hm,if_false,List.length_cons]
      have hrow:row+1+1≤p:=by
        unfold Q1 at hm;by_cases hc:f=0∨row=p - 1
        · rw[if_pos hc]at hm;exact absurd rfl hm
        · omega
      obtain⟨i1,i2,i3,i4,i5⟩:=ZJ f p fuel (row+1) (Q1 f p row n) (by omega) hrow;refine⟨by omega,by omega,rfl,?_,?_⟩
      · intro j hj
        cases j with
        | zero=>
          refine⟨hm,?_⟩;rw[Y5,i3];rfl
        | succ j=>
          obtain⟨k1,k2⟩:=i4 j (by omega);refine⟨k1,?_⟩;rw[Y5,Y5,k2];congr 1
          omega
      · obtain⟨k,hk⟩: ∃k,(qV f p fuel (row+1) (Q1 f p row n)).length=k+1:=⟨_,(Nat.succ_pred_eq_of_pos i1).symm⟩
        rw[hk]at i5⊢;exact i5
structure RowsIs (f p n0:Nat)(L:List Nat):Prop where
  len:2≤L.length
  most:L.length≤p
  first:nth L 0=n0
  next: ∀k,k+1<L.length→nth L (k+1)=Q1 f p (k+1) (nth L k)
  more: ∀k,1≤k→k+1<L.length→nth L k≠1
  last:nth L (L.length - 1)=1
theorem qeP (f p n:Nat)(hp:2≤p):RowsIs f p n (YP f p n):=by
  obtain⟨i1,i2,i3,i4,i5⟩:=ZJ f p p 1 n (by omega) (by omega);refine⟨?_,?_,rfl,?_,?_,?_⟩
  · simp only[YP,List.length_cons];omega
  · simp only[YP,List.length_cons];omega
  · intro k hk
    simp only[YP,List.length_cons]at hk
    cases k with
    | zero=>exact i3
    | succ k=>
      have:=(i4 k (by omega)).2
      show nth (qV f p p 1 n) (k+1)=Q1 f p (k+1+1) (nth (qV f p p 1 n) k)
      rw[this];congr 1;omega
  · intro k hk hk2
    simp only[YP,List.length_cons]at hk2;obtain⟨j,rfl⟩: ∃j,k=j+1:=⟨k - 1,by omega⟩;exact(i4 j (by omega)).1
  · obtain⟨k,hk⟩: ∃k,(qV f p p 1 n).length=k+1:=⟨_,(Nat.succ_pred_eq_of_pos i1).symm⟩
    simp only[YP,List.length_cons];rw[hk]at i5⊢;exact i5
theorem RowsIs.root_iff {f p n0:Nat}{L:List Nat}(h:RowsIs f p n0 L){k:Nat}(hk:k<L.length):(1≤k∧nth L k=1)↔k=L.length - 1:=by
  constructor
  · intro ⟨h1,h2⟩
    by_cases hc:k+1<L.length
    · exact absurd h2 (h.more k h1 hc)
    · omega
  · intro e
    have:=h.len
    refine⟨by omega,?_⟩;rw[e];exact h.last
theorem qf8 {m d k:Nat}(hd:1≤d)(h:k<Qc m d):k*d<m∨(m=0):=by
  unfold Qc at h;have hdm:=Nat.div_add_mod m d;split at h
  · rename_i h0
    have h2:(k+1)*d≤m/d*d:=Nat.mul_le_mul_right d h;have h3:m/d*d=m:=by rw[Nat.mul_comm];omega
    rw[Nat.add_mul]at h2;omega
  · rename_i h0
    have h2:k*d≤m/d*d:=Nat.mul_le_mul_right d (by omega);have h3:m/d*d+m%d=m:=by rw[Nat.mul_comm];omega
    omega
theorem qeC {d:Nat}:Qc 0 d=0:=by simp[Qc]
theorem J7 {m d k:Nat}(hd:1≤d)(h:k<Qc m d):k*d<m:=by
  rcases qf8 hd h with h'|h'
  · exact h'
  · subst h';rw[qeC]at h;omega
theorem qbE {m d k:Nat}(hd:1≤d)(h:Qc m d≤k):m≤k*d:=by
  unfold Qc at h;have hdm:=Nat.div_add_mod m d;split at h
  · have h2:m/d*d≤k*d:=Nat.mul_le_mul_right d h
    have h3:m/d*d=m:=by rw[Nat.mul_comm];omega
    omega
  · have h2:(m/d+1)*d≤k*d:=Nat.mul_le_mul_right d h
    have h3:m/d*d+m%d=m:=by rw[Nat.mul_comm];omega
    have h4:=Nat.mod_lt m (show d>0 by omega);rw[Nat.add_mul]at h2;omega
structure SpotV where
  row:Nat
  at_:Nat
  frm:Nat
  to_:Nat
  last:Bool
  root:Bool
def SpotV.val (s:SpotV):Value:= .agg #[.int .i64 s.row,.int .u64 s.at_,.int .u64 s.frm,.int .u64 s.to_,.bool s.last,.bool s.root]
def SpotV.zero:SpotV:=⟨0,0,0,0,false,false⟩
def JB (f l total:Nat)(L:List Nat)(row at_:Nat):SpotV:=
  if 1≤row∧nth L row=1 then⟨row,at_,0,nth L (row - 1),decide (at_=nth L row - 1),true⟩
  else if at_=nth L row - 1 then⟨row,at_,at_*(if row=0 then l else f),if row=0 then total else nth L (row - 1),true,false⟩
  else⟨row,at_,at_*(if row=0 then l else f),(at_+1)*(if row=0 then l else f),false,false⟩
def TreeV.rowsOf (t:TreeV)(total:Nat):List Nat:=YP t.fn t.pn (lvs total t.ln)
def TreeV.there (t:TreeV)(total:Nat)(row:Int)(at_:Nat):Prop:=0≤row∧row.toNat<(t.rowsOf total).length∧at_<nth (t.rowsOf total) row.toNat
instance (t:TreeV)(total:Nat)(row:Int)(at_:Nat):Decidable (t.there total row at_):=by unfold TreeV.there;infer_instance
def TreeV.spot (t:TreeV)(total row at_:Nat):SpotV:=JB t.fn t.ln total (t.rowsOf total) row at_
theorem qbu {total l k:Nat}(hl:1≤l)(h:k<lvs total l):k*l≤total:=by
  unfold lvs at h;by_cases h0:k=0
  · subst h0;simp
  · have:=J7 hl (show k<Qc total l by omega)
    omega
theorem RowsIs.next_or {f p n0:Nat}{L:List Nat}(h:RowsIs f p n0 L){k:Nat}(hk:k+1<L.length)(h1:nth L (k+1)≠1):nth L (k+1)=Qc (nth L k) f∧f≠0:=by
  have:=h.next k hk
  unfold Q1 at this;by_cases hc:f=0∨k+1=p - 1
  · rw[if_pos hc]at this;exact absurd this h1
  · rw[if_neg hc]at this;exact⟨this,fun e=>hc (.inl e)⟩
theorem qbO {f p total l:Nat}{L:List Nat}(hl:1≤l)(h:RowsIs f p (lvs total l) L){row at_:Nat}(hr:row<L.length)(ha:at_<nth L row)(hn: ¬(1≤row∧nth L row=1)):
    at_*(if row=0 then l else f)≤(if row=0 then total else nth L (row - 1))∧(at_≠nth L row - 1→(at_+1)*(if row=0 then l else f)≤(if row=0 then total else nth L (row - 1)))∧(1≤row→1≤f):=by
  cases row with
  | zero=>
    simp only[if_true];rw[h.first]at ha⊢;refine⟨qbu hl ha,fun h2=>qbu hl (by omega),by omega⟩
  | succ k=>
    have h1:nth L (k+1)≠1:=fun e=>hn ⟨by omega,e⟩
    obtain⟨e,hf⟩:=h.next_or hr h1;simp only[Nat.add_one_sub_one,Nat.succ_ne_zero,if_false];rw[e]at ha⊢;have hf1:1≤f:=by omega
    refine⟨Nat.le_of_lt (J7 hf1 ha),fun h2=>Nat.le_of_lt (J7 hf1 (by omega)),fun _=>hf1⟩
theorem qa9 {f p total l:Nat}{L:List Nat}(hl:1≤l)(ht:(total:Int)≤18446744073709551615)(h:RowsIs f p (lvs total l) L): ∀k,k<L.length→(nth L k:Int)≤18446744073709551615
  | 0,_=>by rw[h.first];exact qfd total l hl ht
  | k+1,hk=>by
    have ih:=qa9 hl ht h k (by omega);have:=h.next k hk
    rw[this];unfold Q1;split
    · omega
    · rename_i hc
      have:=Yf (n:=nth L k) (show 1≤f by omega)
      omega
theorem QZ {t:TreeV}{total:Nat}(h:t.err total=0):RowsIs t.fn t.pn (lvs total t.ln) (t.rowsOf total):=by
  have hv:=qq (yb h);exact qeP _ _ _ (by unfold TreeV.pn;omega)
end Go.Proofs.YtdndeffmlhaipaaGreatDoor
