/- Plain laws on the rows of a tree and on a node's place. No condition. -/
import Derived.Test.YtdndeffmlhaipaaGreatC05
set_option linter.all false
set_option maxRecDepth 100000
set_option maxHeartbeats 8000000
namespace Go.Proofs.YtdndeffmlhaipaaGreat
open Go.ChangeShapes Go.WideShapes Go.ChangeAt Go.RowKit
def yl (f p row n:Nat):Nat:=if f=0∨row=p - 1 then 1 else qL n f
theorem jD (f p:Nat): ∀(fuel row n:Nat),p≤fuel+row→row+1≤p→
    0<(qQ f p fuel row n).length∧row+(qQ f p fuel row n).length≤p∧
    nth (qQ f p fuel row n) 0=yl f p row n∧
    (∀j,j+1<(qQ f p fuel row n).length→nth (qQ f p fuel row n) j≠1∧nth (qQ f p fuel row n) (j+1)=yl f p (row+(j+1)) (nth (qQ f p fuel row n) j))∧
    nth (qQ f p fuel row n) ((qQ f p fuel row n).length - 1)=1
  | 0,row,n,h1,h2=>by omega
  | fuel+1,row,n,h1,h2=>by
    have e:qQ f p (fuel+1) row n=yl f p row n::(if yl f p row n=1 then [] else qQ f p fuel (row+1) (yl f p row n)):=rfl;rw[e];by_cases hm:yl f p row n=1
    · simp only[hm,if_true,List.length_singleton]
      refine⟨by omega,by omega,rfl,fun j hj=>by omega,rfl⟩
    · simp only[hm,if_false,List.length_cons]
      have hrow:row+1+1≤p:=by
        unfold yl at hm;by_cases hc:f=0∨row=p - 1
        · rw[if_pos hc]at hm;exact absurd rfl hm
        · omega
      obtain⟨i1,i2,i3,i4,i5⟩:=jD f p fuel (row+1) (yl f p row n) (by omega) hrow;refine⟨by omega,by omega,rfl,?_,?_⟩
      · intro j hj
        cases j with
        | zero=>
          refine⟨hm,?_⟩;rw[YI,i3];rfl
        | succ j=>
          obtain⟨k1,k2⟩:=i4 j (by omega);refine⟨k1,?_⟩;rw[YI,YI,k2];congr 1
          omega
      · obtain⟨k,hk⟩: ∃k,(qQ f p fuel (row+1) (yl f p row n)).length=k+1:=⟨_,(Nat.succ_pred_eq_of_pos i1).symm⟩
        rw[hk]at i5⊢;exact i5
structure RowsIs (f p n0:Nat)(L:List Nat):Prop where
  len:2≤L.length
  most:L.length≤p
  first:nth L 0=n0
  next: ∀k,k+1<L.length→nth L (k+1)=yl f p (k+1) (nth L k)
  more: ∀k,1≤k→k+1<L.length→nth L k≠1
  last:nth L (L.length - 1)=1
theorem qgr (f p n:Nat)(hp:2≤p):RowsIs f p n (Qr f p n):=by
  obtain⟨i1,i2,i3,i4,i5⟩:=jD f p p 1 n (by omega) (by omega);refine⟨?_,?_,rfl,?_,?_,?_⟩
  · simp only[Qr,List.length_cons];omega
  · simp only[Qr,List.length_cons];omega
  · intro k hk
    simp only[Qr,List.length_cons]at hk
    cases k with
    | zero=>exact i3
    | succ k=>
      have:=(i4 k (by omega)).2
      show nth (qQ f p p 1 n) (k+1)=yl f p (k+1+1) (nth (qQ f p p 1 n) k)
      rw[this];congr 1;omega
  · intro k hk hk2
    simp only[Qr,List.length_cons]at hk2;obtain⟨j,rfl⟩: ∃j,k=j+1:=⟨k - 1,by omega⟩;exact(i4 j (by omega)).1
  · obtain⟨k,hk⟩: ∃k,(qQ f p p 1 n).length=k+1:=⟨_,(Nat.succ_pred_eq_of_pos i1).symm⟩
    simp only[Qr,List.length_cons];rw[hk]at i5⊢;exact i5
theorem RowsIs.root_iff {f p n0:Nat}{L:List Nat}(h:RowsIs f p n0 L){k:Nat}(hk:k<L.length):(1≤k∧nth L k=1)↔k=L.length - 1:=by
  constructor
  · intro ⟨h1,h2⟩
    by_cases hc:k+1<L.length
    · exact absurd h2 (h.more k h1 hc)
    · omega
  · intro e
    have:=h.len
    refine⟨by omega,?_⟩;rw[e];exact h.last
theorem qhS {m d k:Nat}(hd:1≤d)(h:k<qL m d):k*d<m∨(m=0):=by
  unfold qL at h;have hdm:=Nat.div_add_mod m d;split at h
  · rename_i h0
    have h2:(k+1)*d≤m/d*d:=Nat.mul_le_mul_right d h;have h3:m/d*d=m:=by rw[Nat.mul_comm];omega
    rw[Nat.add_mul]at h2;omega
  · rename_i h0
    have h2:k*d≤m/d*d:=Nat.mul_le_mul_right d (by omega);have h3:m/d*d+m%d=m:=by rw[Nat.mul_comm];omega
    omega
theorem qgf {d:Nat}:qL 0 d=0:=by simp[qL]
theorem qbp {m d k:Nat}(hd:1≤d)(h:k<qL m d):k*d<m:=by
  rcases qhS hd h with h'|h'
  · exact h'
  · subst h';rw[qgf]at h;omega
theorem qdc {m d k:Nat}(hd:1≤d)(h:qL m d≤k):m≤k*d:=by
  unfold qL at h;have hdm:=Nat.div_add_mod m d;split at h
  · have h2:m/d*d≤k*d:=Nat.mul_le_mul_right d h
    have h3:m/d*d=m:=by rw[Nat.mul_comm];omega
    omega
  · have h2:(m/d+1)*d≤k*d:=Nat.mul_le_mul_right d h
    have h3:m/d*d+m%d=m:=by rw[Nat.mul_comm];omega
    have h4:=Nat.mod_lt m (show d>0 by omega);rw[Nat.add_mul]at h2;omega
structure SpotV where
  row:Nat
  at_:Nat
  frm:Nat
  to_:Nat
  last:Bool
  root:Bool
def SpotV.val (s:SpotV):Value:= .agg #[.int .i64 s.row,.int .u64 s.at_,.int .u64 s.frm,.int .u64 s.to_,.bool s.last,.bool s.root]
def SpotV.zero:SpotV:=⟨0,0,0,0,false,false⟩
def qaR (f l total:Nat)(L:List Nat)(row at_:Nat):SpotV:=
  if 1≤row∧nth L row=1 then⟨row,at_,0,nth L (row - 1),decide (at_=nth L row - 1),true⟩
  else if at_=nth L row - 1 then⟨row,at_,at_*(if row=0 then l else f),if row=0 then total else nth L (row - 1),true,false⟩
  else⟨row,at_,at_*(if row=0 then l else f),(at_+1)*(if row=0 then l else f),false,false⟩
def TreeV.rowsOf (t:TreeV)(total:Nat):List Nat:=Qr t.fn t.pn (lvs total t.ln)
def TreeV.there (t:TreeV)(total:Nat)(row:Int)(at_:Nat):Prop:=0≤row∧row.toNat<(t.rowsOf total).length∧at_<nth (t.rowsOf total) row.toNat
instance (t:TreeV)(total:Nat)(row:Int)(at_:Nat):Decidable (t.there total row at_):=by unfold TreeV.there;infer_instance
def TreeV.spot (t:TreeV)(total row at_:Nat):SpotV:=qaR t.fn t.ln total (t.rowsOf total) row at_
theorem qcZ {total l k:Nat}(hl:1≤l)(h:k<lvs total l):k*l≤total:=by
  unfold lvs at h;by_cases h0:k=0
  · subst h0;simp
  · have:=qbp hl (show k<qL total l by omega)
    omega
theorem RowsIs.next_or {f p n0:Nat}{L:List Nat}(h:RowsIs f p n0 L){k:Nat}(hk:k+1<L.length)(h1:nth L (k+1)≠1):nth L (k+1)=qL (nth L k) f∧f≠0:=by
  have:=h.next k hk
  unfold yl at this;by_cases hc:f=0∨k+1=p - 1
  · rw[if_pos hc]at this;exact absurd this h1
  · rw[if_neg hc]at this;exact⟨this,fun e=>hc (.inl e)⟩
theorem qdq {f p total l:Nat}{L:List Nat}(hl:1≤l)(h:RowsIs f p (lvs total l) L){row at_:Nat}(hr:row<L.length)(ha:at_<nth L row)(hn: ¬(1≤row∧nth L row=1)):
    at_*(if row=0 then l else f)≤(if row=0 then total else nth L (row - 1))∧(at_≠nth L row - 1→(at_+1)*(if row=0 then l else f)≤(if row=0 then total else nth L (row - 1)))∧(1≤row→1≤f):=by
  cases row with
  | zero=>
    simp only[if_true];rw[h.first]at ha⊢;refine⟨qcZ hl ha,fun h2=>qcZ hl (by omega),by omega⟩
  | succ k=>
    have h1:nth L (k+1)≠1:=fun e=>hn ⟨by omega,e⟩
    obtain⟨e,hf⟩:=h.next_or hr h1;simp only[Nat.add_one_sub_one,Nat.succ_ne_zero,if_false];rw[e]at ha⊢;have hf1:1≤f:=by omega
    refine⟨Nat.le_of_lt (qbp hf1 ha),fun h2=>Nat.le_of_lt (qbp hf1 (by omega)),fun _=>hf1⟩
theorem qcB {f p total l:Nat}{L:List Nat}(hl:1≤l)(ht:(total:Int)≤18446744073709551615)(h:RowsIs f p (lvs total l) L): ∀k,k<L.length→(nth L k:Int)≤18446744073709551615
  | 0,_=>by rw[h.first];exact qeP total l hl ht
  | k+1,hk=>by
    have ih:=qcB hl ht h k (by omega);have:=h.next k hk
    rw[this];unfold yl;split
    · omega
    · rename_i hc
      have:=yX (n:=nth L k) (show 1≤f by omega)
      omega
theorem qU {t:TreeV}{total:Nat}(h:t.err total=0):RowsIs t.fn t.pn (lvs total t.ln) (t.rowsOf total):=by
  have hv:=qk (Q5 h);exact qgr _ _ _ (by unfold TreeV.pn;omega)
end Go.Proofs.YtdndeffmlhaipaaGreat
