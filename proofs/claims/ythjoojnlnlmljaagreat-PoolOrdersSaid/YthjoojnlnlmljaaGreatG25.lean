/- Plain laws on the rows of a tree and on a node's place. No condition. -/
import Derived.Test.YthjoojnlnlmljaaGreatG05
set_option linter.all false
set_option maxRecDepth 100000
set_option maxHeartbeats 8000000
namespace Go.Proofs.YthjoojnlnlmljaaGreat
open Go.ChangeShapes Go.WideShapes Go.ChangeAt Go.RowKit
def yb (f p row n:Nat):Nat:=if f=0∨row=p - 1 then 1 else qY n f
theorem jK (f p:Nat): ∀(fuel row n:Nat),p≤fuel+row→row+1≤p→
    0<(qT f p fuel row n).length∧row+(qT f p fuel row n).length≤p∧
    nth (qT f p fuel row n) 0=yb f p row n∧
    (∀j,j+1<(qT f p fuel row n).length→nth (qT f p fuel row n) j≠1∧nth (qT f p fuel row n) (j+1)=yb f p (row+(j+1)) (nth (qT f p fuel row n) j))∧
    nth (qT f p fuel row n) ((qT f p fuel row n).length - 1)=1
  | 0,row,n,h1,h2=>by omega
  | fuel+1,row,n,h1,h2=>by
    have e:qT f p (fuel+1) row n=yb f p row n::(if yb f p row n=1 then [] else qT f p fuel (row+1) (yb f p row n)):=rfl;rw[e];by_cases o:yb f p row n=1
    · simp only[o,if_true,List.length_singleton]
      refine⟨by omega,by omega,rfl,fun j Y=>by omega,rfl⟩
    · simp only[o,if_false,List.length_cons]
      have q:row+1+1≤p:=by
        unfold yb at o;by_cases V:f=0∨row=p - 1
        · rw[if_pos V]at o;exact absurd rfl o
        · omega
      obtain⟨X,Z,U,O,D⟩:=jK f p fuel (row+1) (yb f p row n) (by omega) q;refine⟨by omega,by omega,rfl,?_,?_⟩
      · intro j Y
        cases j with
        | zero=>
          refine⟨o,?_⟩;rw[YL,U];rfl
        | succ j=>
          obtain⟨I,J⟩:=O j (by omega);refine⟨I,?_⟩;rw[YL,YL,J];congr 1
          omega
      · obtain⟨k,G⟩: ∃k,(qT f p fuel (row+1) (yb f p row n)).length=k+1:=⟨_,(Nat.succ_pred_eq_of_pos X).symm⟩
        rw[G]at D⊢;exact D
structure RowsIs (f p n0:Nat)(L:List Nat):Prop where
  len:2≤L.length
  most:L.length≤p
  first:nth L 0=n0
  next: ∀k,k+1<L.length→nth L (k+1)=yb f p (k+1) (nth L k)
  more: ∀k,1≤k→k+1<L.length→nth L k≠1
  last:nth L (L.length - 1)=1
theorem qhc (f p n:Nat)(U:2≤p):RowsIs f p n (Qt f p n):=by
  obtain⟨I,O,J,G,q⟩:=jK f p p 1 n (by omega) (by omega);refine⟨?_,?_,rfl,?_,?_,?_⟩
  · simp only[Qt,List.length_cons];omega
  · simp only[Qt,List.length_cons];omega
  · intro k o
    simp only[Qt,List.length_cons]at o
    cases k with
    | zero=>exact J
    | succ k=>
      have:=(G k (by omega)).2
      show nth (qT f p p 1 n) (k+1)=yb f p (k+1+1) (nth (qT f p p 1 n) k)
      rw[this];congr 1;omega
  · intro k o D
    simp only[Qt,List.length_cons]at D;obtain⟨j,rfl⟩: ∃j,k=j+1:=⟨k - 1,by omega⟩;exact(G j (by omega)).1
  · obtain⟨k,o⟩: ∃k,(qT f p p 1 n).length=k+1:=⟨_,(Nat.succ_pred_eq_of_pos I).symm⟩
    simp only[Qt,List.length_cons];rw[o]at q⊢;exact q
theorem RowsIs.root_iff {f p q:Nat}{L:List Nat}(h:RowsIs f p q L){k:Nat}(D:k<L.length):(1≤k∧nth L k=1)↔k=L.length - 1:=by
  constructor
  · intro ⟨h1,h2⟩
    by_cases o:k+1<L.length
    · exact absurd h2 (h.more k h1 o)
    · omega
  · intro e
    have:=h.len
    refine⟨by omega,?_⟩;rw[e];exact h.last
theorem qiB {m d k:Nat}(I:1≤d)(h:k<qY m d):k*d<m∨(m=0):=by
  unfold qY at h;have G:=Nat.div_add_mod m d;split at h
  · rename_i q
    have o:(k+1)*d≤m/d*d:=Nat.mul_le_mul_right d h;have D:m/d*d=m:=by rw[Nat.mul_comm];omega
    rw[Nat.add_mul]at o;omega
  · rename_i q
    have o:k*d≤m/d*d:=Nat.mul_le_mul_right d (by omega);have D:m/d*d+m%d=m:=by rw[Nat.mul_comm];omega
    omega
theorem qgW {d:Nat}:qY 0 d=0:=by simp[qY]
theorem Z9 {m d k:Nat}(q:1≤d)(h:k<qY m d):k*d<m:=by
  rcases qiB q h with o|o
  · exact o
  · subst o;rw[qgW]at h;omega
theorem qaZ {m d k:Nat}(G:1≤d)(h:qY m d≤k):m≤k*d:=by
  unfold qY at h;have D:=Nat.div_add_mod m d;split at h
  · have o:m/d*d≤k*d:=Nat.mul_le_mul_right d h
    have q:m/d*d=m:=by rw[Nat.mul_comm];omega
    omega
  · have o:(m/d+1)*d≤k*d:=Nat.mul_le_mul_right d h
    have q:m/d*d+m%d=m:=by rw[Nat.mul_comm];omega
    have I:=Nat.mod_lt m (show d>0 by omega);rw[Nat.add_mul]at o;omega
structure SpotV where
  row:Nat
  at_:Nat
  frm:Nat
  to_:Nat
  last:Bool
  root:Bool
def SpotV.val (s:SpotV):Value:= .agg #[.int .i64 s.row,.int .u64 s.at_,.int .u64 s.frm,.int .u64 s.to_,.bool s.last,.bool s.root]
def SpotV.zero:SpotV:=⟨0,0,0,0,false,false⟩
def Qv (f l total:Nat)(L:List Nat)(row at_:Nat):SpotV:=
  if 1≤row∧nth L row=1 then⟨row,at_,0,nth L (row - 1),decide (at_=nth L row - 1),true⟩
  else if at_=nth L row - 1 then⟨row,at_,at_*(if row=0 then l else f),if row=0 then total else nth L (row - 1),true,false⟩
  else⟨row,at_,at_*(if row=0 then l else f),(at_+1)*(if row=0 then l else f),false,false⟩
def TreeV.rowsOf (t:TreeV)(total:Nat):List Nat:=Qt t.fn t.pn (lvs total t.ln)
def TreeV.there (t:TreeV)(total:Nat)(row:Int)(at_:Nat):Prop:=0≤row∧row.toNat<(t.rowsOf total).length∧at_<nth (t.rowsOf total) row.toNat
instance (t:TreeV)(total:Nat)(row:Int)(at_:Nat):Decidable (t.there total row at_):=by unfold TreeV.there;infer_instance
def TreeV.spot (t:TreeV)(total row at_:Nat):SpotV:=Qv t.fn t.ln total (t.rowsOf total) row at_
theorem qdd {total l k:Nat}(o:1≤l)(h:k<lvs total l):k*l≤total:=by
  unfold lvs at h;by_cases q:k=0
  · subst q;simp
  · have:=Z9 o (show k<qY total l by omega)
    omega
theorem RowsIs.next_or {f p D:Nat}{L:List Nat}(h:RowsIs f p D L){k:Nat}(q:k+1<L.length)(G:nth L (k+1)≠1):nth L (k+1)=qY (nth L k) f∧f≠0:=by
  have:=h.next k q
  unfold yb at this;by_cases o:f=0∨k+1=p - 1
  · rw[if_pos o]at this;exact absurd this G
  · rw[if_neg o]at this;exact⟨this,fun e=>o (.inl e)⟩
theorem ZH {f p total l:Nat}{L:List Nat}(D:1≤l)(h:RowsIs f p (lvs total l) L){row at_:Nat}(I:row<L.length)(q:at_<nth L row)(J: ¬(1≤row∧nth L row=1)):
    at_*(if row=0 then l else f)≤(if row=0 then total else nth L (row - 1))∧(at_≠nth L row - 1→(at_+1)*(if row=0 then l else f)≤(if row=0 then total else nth L (row - 1)))∧(1≤row→1≤f):=by
  cases row with
  | zero=>
    simp only[if_true];rw[h.first]at q⊢;refine⟨qdd D q,fun G=>qdd D (by omega),by omega⟩
  | succ k=>
    have O:nth L (k+1)≠1:=fun e=>J ⟨by omega,e⟩
    obtain⟨e,U⟩:=h.next_or I O;simp only[Nat.add_one_sub_one,Nat.succ_ne_zero,if_false];rw[e]at q⊢;have o:1≤f:=by omega
    refine⟨Nat.le_of_lt (Z9 o q),fun G=>Nat.le_of_lt (Z9 o (by omega)),fun _=>o⟩
theorem jh {f p total l:Nat}{L:List Nat}(q:1≤l)(o:(total:Int)≤18446744073709551615)(h:RowsIs f p (lvs total l) L): ∀k,k<L.length→(nth L k:Int)≤18446744073709551615
  | 0,_=>by rw[h.first];exact qfm total l q o
  | k+1,hk=>by
    have G:=jh q o h k (by omega);have:=h.next k hk
    rw[this];unfold yb;split
    · omega
    · rename_i D
      have:=YM (n:=nth L k) (show 1≤f by omega)
      omega
theorem qM {t:TreeV}{total:Nat}(h:t.err total=0):RowsIs t.fn t.pn (lvs total t.ln) (t.rowsOf total):=by
  have o:=qq (qW h);exact qhc _ _ _ (by unfold TreeV.pn;omega)
end Go.Proofs.YthjoojnlnlmljaaGreat
