/- Lemmas. No condition. -/
import Derived.Test.YtahenngmaoellaaGreatO05
set_option linter.all false
set_option maxRecDepth 100000
set_option maxHeartbeats 0
namespace Go.Proofs.YtahenngmaoellaaGreat
open Go.ChangeShapes Go.WideShapes Go.ChangeAt Go.RowKit
variable{f p k m d total l:Nat}{L:List Nat}
def yv (f p row n:Nat):Nat:=if f=0\/row=p - 1 then 1 else qP n f
theorem Jt (f p:Nat): ∀(fuel row n:Nat),p<=fuel+row->row+1<=p->
    0<(Qi f p fuel row n).length/\row+(Qi f p fuel row n).length<=p/\
    nth (Qi f p fuel row n) 0=yv f p row n/\
    (∀j,j+1<(Qi f p fuel row n).length->nth (Qi f p fuel row n) j≠1/\nth (Qi f p fuel row n) (j+1)=yv f p (row+(j+1)) (nth (Qi f p fuel row n) j))/\
    nth (Qi f p fuel row n) ((Qi f p fuel row n).length - 1)=1
  | 0,row,n,h1,h2=>by omega
  | fuel+1,row,n,h1,h2=>by
    have e:Qi f p (fuel+1) row n=yv f p row n::(if yv f p row n=1 then [] else Qi f p fuel (row+1) (yv f p row n)):=rfl;rw[e];by_cases o:yv f p row n=1
    · simp only[o,if_true,List.length_singleton]
      refine⟨by omega,by omega,rfl,fun j U=>by omega,rfl⟩
    · simp only[o,if_false,List.length_cons]
      have q:row+1+1<=p:=by
        unfold yv at o;by_cases S:f=0\/row=p - 1
        · rw[if_pos S]at o;exact absurd rfl o
        · omega
      obtain⟨O,X,D,J,r⟩:=Jt f p fuel (row+1) (yv f p row n) (by omega) q;refine⟨by omega,by omega,rfl,?_,?_⟩
      · intro j U
        cases j with
        | zero=>
          refine⟨o,?_⟩;rw[zp,D];rfl
        | succ j=>
          obtain⟨V,I⟩:=J j (by omega);refine⟨V,?_⟩;rw[zp,zp,I];congr 1
          omega
      · obtain⟨k,G⟩: ∃k,(Qi f p fuel (row+1) (yv f p row n)).length=k+1:=⟨_,(Nat.succ_pred_eq_of_pos O).symm⟩
        rw[G]at r⊢;exact r
structure RowsIs (f p n0:Nat)(L:List Nat):Prop where
  len:2<=L.length
  most:L.length<=p
  first:nth L 0=n0
  next: ∀k,k+1<L.length->nth L (k+1)=yv f p (k+1) (nth L k)
  more: ∀k,1<=k->k+1<L.length->nth L k≠1
  last:nth L (L.length - 1)=1
theorem qix (f p n:Nat)(O:2<=p):RowsIs f p n (QT f p n):=by
  obtain⟨I,J,G,D,q⟩:=Jt f p p 1 n (by omega) (by omega);refine⟨?_,?_,rfl,?_,?_,?_⟩
  · simp only[QT,List.length_cons];omega
  · simp only[QT,List.length_cons];omega
  · intro k o
    simp only[QT,List.length_cons]at o
    cases k with
    | zero=>exact G
    | succ k=>
      have:=(D k (by omega)).2
      show nth (Qi f p p 1 n) (k+1)=yv f p (k+1+1) (nth (Qi f p p 1 n) k)
      rw[this];congr 1;omega
  · intro k o r
    simp only[QT,List.length_cons]at r;obtain⟨j,rfl⟩: ∃j,k=j+1:=⟨k - 1,by omega⟩;exact(D j (by omega)).1
  · obtain⟨k,o⟩: ∃k,(Qi f p p 1 n).length=k+1:=⟨_,(Nat.succ_pred_eq_of_pos I).symm⟩
    simp only[QT,List.length_cons];rw[o]at q⊢;exact q
theorem RowsIs.root_iff {q:Nat}(h:RowsIs f p q L)(r:k<L.length):(1<=k/\nth L k=1)↔k=L.length - 1:=by
  constructor
  · intro ⟨h1,h2⟩
    by_cases o:k+1<L.length
    · exact absurd h2 (h.more k h1 o)
    · omega
  · intro e
    have:=h.len
    refine⟨by omega,?_⟩;rw[e];exact h.last
theorem qj3 (G:1<=d)(h:k<qP m d):k*d<m\/(m=0):=by
  unfold qP at h;have D:=Nat.div_add_mod m d;split at h
  · rename_i q
    have o:(k+1)*d<=m/d*d:=Nat.mul_le_mul_right d h;have r:m/d*d=m:=by rw[Nat.mul_comm];omega
    rw[Nat.add_mul]at o;omega
  · rename_i q
    have o:k*d<=m/d*d:=Nat.mul_le_mul_right d (by omega);have r:m/d*d+m%d=m:=by rw[Nat.mul_comm];omega
    omega
theorem qib :qP 0 d=0:=by simp[qP]
theorem qai (q:1<=d)(h:k<qP m d):k*d<m:=by
  rcases qj3 q h with o|o
  · exact o
  · subst o;rw[qib]at h;omega
theorem Jj (D:1<=d)(h:qP m d<=k):m<=k*d:=by
  unfold qP at h;have r:=Nat.div_add_mod m d;split at h
  · have o:m/d*d<=k*d:=Nat.mul_le_mul_right d h
    have q:m/d*d=m:=by rw[Nat.mul_comm];omega
    omega
  · have o:(m/d+1)*d<=k*d:=Nat.mul_le_mul_right d h
    have q:m/d*d+m%d=m:=by rw[Nat.mul_comm];omega
    have G:=Nat.mod_lt m (show d>0 by omega);rw[Nat.add_mul]at o;omega
structure SpotV where
  row:Nat
  at_:Nat
  frm:Nat
  to_:Nat
  last:Bool
  root:Bool
def SpotV.val (s:SpotV):Value:= .agg #[.int .i64 s.row,.int .u64 s.at_,.int .u64 s.frm,.int .u64 s.to_,.bool s.last,.bool s.root]
def SpotV.zero:SpotV:=⟨0,0,0,0,false,false⟩
def QZ (f l total:Nat)(L:List Nat)(row at_:Nat):SpotV:=
  if 1<=row/\nth L row=1 then⟨row,at_,0,nth L (row - 1),decide (at_=nth L row - 1),true⟩
  else if at_=nth L row - 1 then⟨row,at_,at_*(if row=0 then l else f),if row=0 then total else nth L (row - 1),true,false⟩
  else⟨row,at_,at_*(if row=0 then l else f),(at_+1)*(if row=0 then l else f),false,false⟩
def TreeV.rowsOf (t:TreeV)(total:Nat):List Nat:=QT t.fn t.pn (lvs total t.ln)
def TreeV.there (t:TreeV)(total:Nat)(row:Int)(at_:Nat):Prop:=0<=row/\row.toNat<(t.rowsOf total).length/\at_<nth (t.rowsOf total) row.toNat
instance (t:TreeV)(total:Nat)(row:Int)(at_:Nat):Decidable (t.there total row at_):=by unfold TreeV.there;infer_instance
def TreeV.spot (t:TreeV)(total row at_:Nat):SpotV:=QZ t.fn t.ln total (t.rowsOf total) row at_
theorem qaD (o:1<=l)(h:k<lvs total l):k*l<=total:=by
  unfold lvs at h;by_cases q:k=0
  · subst q;simp
  · have:=qai o (show k<qP total l by omega)
    omega
theorem RowsIs.next_or {D:Nat}(h:RowsIs f p D L)(r:k+1<L.length)(q:nth L (k+1)≠1):nth L (k+1)=qP (nth L k) f/\f≠0:=by
  have:=h.next k r
  unfold yv at this;by_cases o:f=0\/k+1=p - 1
  · rw[if_pos o]at this;exact absurd this q
  · rw[if_neg o]at this;exact⟨this,fun e=>o (.inl e)⟩
theorem jq (r:1<=l)(h:RowsIs f p (lvs total l) L){row at_:Nat}(I:row<L.length)(q:at_<nth L row)(D: ¬(1<=row/\nth L row=1)):
    at_*(if row=0 then l else f)<=(if row=0 then total else nth L (row - 1))/\(at_≠nth L row - 1->(at_+1)*(if row=0 then l else f)<=(if row=0 then total else nth L (row - 1)))/\(1<=row->1<=f):=by
  cases row with
  | zero=>
    simp only[if_true];rw[h.first]at q⊢;refine⟨qaD r q,fun J=>qaD r (by omega),by omega⟩
  | succ k=>
    have G:nth L (k+1)≠1:=fun e=>D ⟨by omega,e⟩
    obtain⟨e,O⟩:=h.next_or I G;simp only[Nat.add_one_sub_one,Nat.succ_ne_zero,if_false];rw[e]at q⊢;have o:1<=f:=by omega
    refine⟨Nat.le_of_lt (qai o q),fun J=>Nat.le_of_lt (qai o (by omega)),fun _=>o⟩
theorem zk {f p total l:Nat}{L:List Nat}(o:1<=l)(q:(total:Int)<=18446744073709551615)(h:RowsIs f p (lvs total l) L): ∀k,k<L.length->(nth L k:Int)<=18446744073709551615
  | 0,_=>by rw[h.first];exact qgt total l o q
  | k+1,hk=>by
    have r:=zk o q h k (by omega);have:=h.next k hk
    rw[this];unfold yv;split
    · omega
    · rename_i D
      have:=Yy (n:=nth L k) (show 1<=f by omega)
      omega
theorem qG {t:TreeV}(h:t.err total=0):RowsIs t.fn t.pn (lvs total t.ln) (t.rowsOf total):=by
  have o:=qn (Q9 h);exact qix _ _ _ (by unfold TreeV.pn;omega)
