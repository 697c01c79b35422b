/- Plain laws on the rows of a tree and on a node's place. No condition. -/
import Derived.Test.YthjoojnlnlmljaaGreatP05
import Derived.BigQuiet
import Derived.Deep.QuietTactic
import Derived.WalkMore
import Derived.Scope
set_option linter.all false
set_option maxRecDepth 100000
set_option maxHeartbeats 8000000
namespace Go.Proofs.YthjoojnlnlmljaaGreat
open Go.ChangeShapes Go.WideShapes Go.ChangeAt Go.RowKit
def yj (f p row n:Nat):Nat:=if f=0∨row=p - 1 then 1 else qR n f
theorem jZ (f p:Nat): ∀(fuel row n:Nat),p≤fuel+row→row+1≤p→
    0<(Qc f p fuel row n).length∧row+(Qc f p fuel row n).length≤p∧
    nth (Qc f p fuel row n) 0=yj f p row n∧
    (∀j,j+1<(Qc f p fuel row n).length→nth (Qc f p fuel row n) j≠1∧nth (Qc f p fuel row n) (j+1)=yj f p (row+(j+1)) (nth (Qc f p fuel row n) j))∧
    nth (Qc f p fuel row n) ((Qc f p fuel row n).length - 1)=1
  | 0,row,n,h1,h2=>by omega
  | fuel+1,row,n,h1,h2=>by
    have e:Qc f p (fuel+1) row n=yj f p row n::(if yj f p row n=1 then [] else Qc f p fuel (row+1) (yj f p row n)):=rfl;rw[e];by_cases o:yj f p row n=1
    · simp only[o,if_true,List.length_singleton]
      refine⟨by omega,by omega,rfl,fun j I=>by omega,rfl⟩
    · simp only[o,if_false,List.length_cons]
      have q:row+1+1≤p:=by
        unfold yj at o;by_cases D:f=0∨row=p - 1
        · rw[if_pos D]at o;exact absurd rfl o
        · omega
      obtain⟨X,Y,J,U,r⟩:=jZ f p fuel (row+1) (yj f p row n) (by omega) q;refine⟨by omega,by omega,rfl,?_,?_⟩
      · intro j I
        cases j with
        | zero=>
          refine⟨o,?_⟩;rw[YW,J];rfl
        | succ j=>
          obtain⟨V,O⟩:=U j (by omega);refine⟨V,?_⟩;rw[YW,YW,O];congr 1
          omega
      · obtain⟨k,G⟩: ∃k,(Qc f p fuel (row+1) (yj f p row n)).length=k+1:=⟨_,(Nat.succ_pred_eq_of_pos X).symm⟩
        rw[G]at r⊢;exact r
structure RowsIs (f p n0:Nat)(L:List Nat):Prop where
  len:2≤L.length
  most:L.length≤p
  first:nth L 0=n0
  next: ∀k,k+1<L.length→nth L (k+1)=yj f p (k+1) (nth L k)
  more: ∀k,1≤k→k+1<L.length→nth L k≠1
  last:nth L (L.length - 1)=1
theorem qhc (f p n:Nat)(O:2≤p):RowsIs f p n (QP f p n):=by
  obtain⟨I,J,G,r,D⟩:=jZ f p p 1 n (by omega) (by omega);refine⟨?_,?_,rfl,?_,?_,?_⟩
  · simp only[QP,List.length_cons];omega
  · simp only[QP,List.length_cons];omega
  · intro k o
    simp only[QP,List.length_cons]at o
    cases k with
    | zero=>exact G
    | succ k=>
      have:=(r k (by omega)).2
      show nth (Qc f p p 1 n) (k+1)=yj f p (k+1+1) (nth (Qc f p p 1 n) k)
      rw[this];congr 1;omega
  · intro k o q
    simp only[QP,List.length_cons]at q;obtain⟨j,rfl⟩: ∃j,k=j+1:=⟨k - 1,by omega⟩;exact(r j (by omega)).1
  · obtain⟨k,o⟩: ∃k,(Qc f p p 1 n).length=k+1:=⟨_,(Nat.succ_pred_eq_of_pos I).symm⟩
    simp only[QP,List.length_cons];rw[o]at D⊢;exact D
theorem RowsIs.root_iff {f p o:Nat}{L:List Nat}(h:RowsIs f p o L){k:Nat}(r:k<L.length):(1≤k∧nth L k=1)↔k=L.length - 1:=by
  constructor
  · intro ⟨h1,h2⟩
    by_cases q:k+1<L.length
    · exact absurd h2 (h.more k h1 q)
    · omega
  · intro e
    have:=h.len
    refine⟨by omega,?_⟩;rw[e];exact h.last
theorem qiD {m d k:Nat}(G:1≤d)(h:k<qR m d):k*d<m∨(m=0):=by
  unfold qR at h;have D:=Nat.div_add_mod m d;split at h
  · rename_i q
    have o:(k+1)*d≤m/d*d:=Nat.mul_le_mul_right d h;have r:m/d*d=m:=by rw[Nat.mul_comm];omega
    rw[Nat.add_mul]at o;omega
  · rename_i q
    have o:k*d≤m/d*d:=Nat.mul_le_mul_right d (by omega);have r:m/d*d+m%d=m:=by rw[Nat.mul_comm];omega
    omega
theorem qgM {d:Nat}:qR 0 d=0:=by simp[qR]
theorem JR {m d k:Nat}(q:1≤d)(h:k<qR m d):k*d<m:=by
  rcases qiD q h with o|o
  · exact o
  · subst o;rw[qgM]at h;omega
theorem JS {m d k:Nat}(G:1≤d)(h:qR m d≤k):m≤k*d:=by
  unfold qR at h;have r:=Nat.div_add_mod m d;split at h
  · have o:m/d*d≤k*d:=Nat.mul_le_mul_right d h
    have q:m/d*d=m:=by rw[Nat.mul_comm];omega
    omega
  · have o:(m/d+1)*d≤k*d:=Nat.mul_le_mul_right d h
    have q:m/d*d+m%d=m:=by rw[Nat.mul_comm];omega
    have D:=Nat.mod_lt m (show d>0 by omega);rw[Nat.add_mul]at o;omega
structure SpotV where
  row:Nat
  at_:Nat
  frm:Nat
  to_:Nat
  last:Bool
  root:Bool
def SpotV.val (s:SpotV):Value:= .agg #[.int .i64 s.row,.int .u64 s.at_,.int .u64 s.frm,.int .u64 s.to_,.bool s.last,.bool s.root]
def SpotV.zero:SpotV:=⟨0,0,0,0,false,false⟩
def QT (f l total:Nat)(L:List Nat)(row at_:Nat):SpotV:=
  if 1≤row∧nth L row=1 then⟨row,at_,0,nth L (row - 1),decide (at_=nth L row - 1),true⟩
  else if at_=nth L row - 1 then⟨row,at_,at_*(if row=0 then l else f),if row=0 then total else nth L (row - 1),true,false⟩
  else⟨row,at_,at_*(if row=0 then l else f),(at_+1)*(if row=0 then l else f),false,false⟩
def TreeV.rowsOf (t:TreeV)(total:Nat):List Nat:=QP t.fn t.pn (lvs total t.ln)
def TreeV.there (t:TreeV)(total:Nat)(row:Int)(at_:Nat):Prop:=0≤row∧row.toNat<(t.rowsOf total).length∧at_<nth (t.rowsOf total) row.toNat
instance (t:TreeV)(total:Nat)(row:Int)(at_:Nat):Decidable (t.there total row at_):=by unfold TreeV.there;infer_instance
def TreeV.spot (t:TreeV)(total row at_:Nat):SpotV:=QT t.fn t.ln total (t.rowsOf total) row at_
theorem J9 {total l k:Nat}(o:1≤l)(h:k<lvs total l):k*l≤total:=by
  unfold lvs at h;by_cases q:k=0
  · subst q;simp
  · have:=JR o (show k<qR total l by omega)
    omega
theorem RowsIs.next_or {f p q:Nat}{L:List Nat}(h:RowsIs f p q L){k:Nat}(D:k+1<L.length)(r:nth L (k+1)≠1):nth L (k+1)=qR (nth L k) f∧f≠0:=by
  have:=h.next k D
  unfold yj at this;by_cases o:f=0∨k+1=p - 1
  · rw[if_pos o]at this;exact absurd this r
  · rw[if_neg o]at this;exact⟨this,fun e=>o (.inl e)⟩
theorem ZY {f p total l:Nat}{L:List Nat}(r:1≤l)(h:RowsIs f p (lvs total l) L){row at_:Nat}(I:row<L.length)(q:at_<nth L row)(J: ¬(1≤row∧nth L row=1)):
    at_*(if row=0 then l else f)≤(if row=0 then total else nth L (row - 1))∧(at_≠nth L row - 1→(at_+1)*(if row=0 then l else f)≤(if row=0 then total else nth L (row - 1)))∧(1≤row→1≤f):=by
  cases row with
  | zero=>
    simp only[if_true];rw[h.first]at q⊢;refine⟨J9 r q,fun D=>J9 r (by omega),by omega⟩
  | succ k=>
    have G:nth L (k+1)≠1:=fun e=>J ⟨by omega,e⟩
    obtain⟨e,O⟩:=h.next_or I G;simp only[Nat.add_one_sub_one,Nat.succ_ne_zero,if_false];rw[e]at q⊢;have o:1≤f:=by omega
    refine⟨Nat.le_of_lt (JR o q),fun D=>Nat.le_of_lt (JR o (by omega)),fun _=>o⟩
theorem zl {f p total l:Nat}{L:List Nat}(o:1≤l)(q:(total:Int)≤18446744073709551615)(h:RowsIs f p (lvs total l) L): ∀k,k<L.length→(nth L k:Int)≤18446744073709551615
  | 0,_=>by rw[h.first];exact qfi total l o q
  | k+1,hk=>by
    have D:=zl o q h k (by omega);have:=h.next k hk
    rw[this];unfold yj;split
    · omega
    · rename_i r
      have:=Yl (n:=nth L k) (show 1≤f by omega)
      omega
theorem qM {t:TreeV}{total:Nat}(h:t.err total=0):RowsIs t.fn t.pn (lvs total t.ln) (t.rowsOf total):=by
  have o:=qo (Q0 h);exact qhc _ _ _ (by unfold TreeV.pn;omega)
end Go.Proofs.YthjoojnlnlmljaaGreat
namespace Go.Proofs.YthjoojnlnlmljaaGreat
open Go.ChangeShapes Go.WideShapes Go.ChangeAt Go.RowKit Go.Joins Go.Shelf Go.Maps
attribute [local go_sem] Oper.semAt_some
theorem qaL {n:Nat}{P:Program}{c:Code}{Q:Exit→Act→World→Prop}{a:Act}{w:World}(h:c.wpIn Fence.wide n P (Exit.noGoto Q) a w):(Code.scope c).wpIn Fence.wide n P Q a w:=
  wpIn_wide.2 (wp_scope_straight (wpIn_wide.1 h))
theorem ya {W:World}{b:Nat}{a0 a1 a2 U J O:Value}{T:TypeId}{fr:Nat×Nat}(h:W.heap[b]? =some (Obj.cells #[a0,a1,a2,U,J,O] T fr))(D I G q o r:Value):
    ((((((W.setCell ⟨b,0,none⟩ D).setCell ⟨b,1,none⟩ I).setCell ⟨b,2,none⟩ G).setCell ⟨b,3,none⟩ q).setCell ⟨b,4,none⟩ o).setCell ⟨b,5,none⟩ r).heap[b]? =some (Obj.cells #[D,I,G,q,o,r] T fr):=
  block_setCell (block_setCell (block_setCell (block_setCell (block_setCell (block_setCell h D) I) G) q) o) r
theorem YO {W:World}{b c:Nat}(h:c≠b)(r G D I o q:Value):
    ((((((W.setCell ⟨b,0,none⟩ r).setCell ⟨b,1,none⟩ G).setCell ⟨b,2,none⟩ D).setCell ⟨b,3,none⟩ I).setCell ⟨b,4,none⟩ o).setCell ⟨b,5,none⟩ q).heap[c]? =W.heap[c]? :=
  (Below.heap_setCell _ _ _ _ h).trans ((Below.heap_setCell _ _ _ _ h).trans ((Below.heap_setCell _ _ _ _ h).trans ((Below.heap_setCell _ _ _ _ h).trans ((Below.heap_setCell _ _ _ _ h).trans (Below.heap_setCell _ _ _ _ h)))))
theorem yb {B:Nat}{a W:World}(h:Below B a W){b:Nat}(o:B≤b)(D I G J q r:Value):
    Below B a ((((((W.setCell ⟨b,0,none⟩ D).setCell ⟨b,1,none⟩ I).setCell ⟨b,2,none⟩ G).setCell ⟨b,3,none⟩ J).setCell ⟨b,4,none⟩ q).setCell ⟨b,5,none⟩ r):=
  (((((h.setCell (p:=⟨b,0,none⟩) o D).setCell (p:=⟨b,1,none⟩) o I).setCell (p:=⟨b,2,none⟩) o G).setCell (p:=⟨b,3,none⟩) o J).setCell (p:=⟨b,4,none⟩) o q).setCell (p:=⟨b,5,none⟩) o r
theorem qD (w:World)(o:Obj){n:Nat}(q:n=w.heap.size):(w.alloc o).heap[n]? =some o:=by subst q;exact Wn w o
theorem zi {P:Program}{fn:Func}{tmps:Array Value}{W:World}{b c:Nat}{O U G q I J e:Value}{T T':TypeId}{fr fr':Nat×Nat}
    (hr:fn.results= #[.cell 8 96,.cell 9 30]) (h8:tmps[8]?.getD undef= .pointer (some ⟨b,0,none⟩)) (h9:tmps[9]?.getD undef= .pointer (some ⟨c,0,none⟩))
    (o:W.heap[b]? =some (Obj.cells #[O,U,G,q,I,J] T fr)) (Z:W.heap[c]? =some (Obj.cells #[e] T' fr')) (hP:P=Tryz.prog):
    (results fn tmps).run P W= .ok (.tuple #[.agg #[O,U,G,q,I,J],e]) W:=by
  subst hP;have r:=qd o 0;have c1:=qd o 1;have c2:=qd o 2;have Y:=qd o 3;have D:=qd o 4;have V:=qd o 5;have X:=qd Z 0;simp only[List.getElem?_toArray,List.getElem?_cons_zero,List.getElem?_cons_succ]at r c1 c2 Y D V X;simp[results,hr,h8,h9,go_sem,r,c1,c2,Y,D,V,X]
theorem qg2 (t:TreeV)(G:0≤t.l∧t.l≤4294967295)(total:Nat)(I:(total:Int)≤18446744073709551615)(h:t.err total≠0)(row:Int)(at_:Nat)(w:World):
    Calls Tryz.prog 105 #[t.val,.int .u64 total,.int .i64 row,.int .u64 at_] w fun e w'=>e= .returned (.tuple #[SpotV.zero.val,.int .i64 (t.err total)])∧Below w.heap.size w w':=by
  have U:(t.err total != 0)=true:=by rw[bne_iff_ne];exact h
  clear h;unfold TreeV.val;go_enter Tryz.func105,Tryz.ntmps105
  go_wp2_with fail
  go_step3
  go_wp2_with fail
  refine(qba t G total I _).mono ?_;rintro e w1 ⟨rfl,o⟩;obtain⟨O,V⟩:=Q5 o;have q:=o.size;simp at q
  go_wp2
  rw[Exit.noGoto_ret];have r:Below w.heap.size w w1:=by
    refine Below.trans ?_ (o.mono (by simp;omega));repeat(first|exact Below.refl _ _|(refine Below.alloc ?_ (by simp;omega) _)|(refine Below.alloc ?_ (by simp) _))
  have J:w1.heap[w.heap.size+1+1+1+1]? =some (Obj.cells #[.int .i64 0,.int .u64 0,.int .u64 0,.int .u64 0,.bool false,.bool false] 96 (0,0)):=by
    rw[o.block _ (by simp)];rw[Bh _ _ _ (by simp)];exact qD _ _ (by simp)
  have D:w1.heap[w.heap.size+1+1+1+1+1]? =some (Obj.cells #[.int .i64 0] 30 (0,0)):=by
    rw[o.block _ (by simp)];exact qD _ _ (by simp)
  refine Bp (zi rfl rfl rfl (b:=w.heap.size+1+1+1+1) (c:=w.heap.size+1+1+1+1+1) (T:=96) (fr:=(0,0)) (T':=30) (fr':=(0,0)) ?_ ?_ rfl) rfl ⟨rfl,?_⟩
  · rw[Below.heap_setCell _ _ _ _ (by simp)]
    exact ya J _ _ _ _ _ _
  · exact block_setCell ((YO (by omega) _ _ _ _ _ _).trans D) _
  · exact(yb r (by omega) _ _ _ _ _ _).setCell (by simp;omega) _
end Go.Proofs.YthjoojnlnlmljaaGreat
namespace Go.Proofs.YthjoojnlnlmljaaGreat
open Go.ChangeShapes Go.WideShapes Go.ChangeAt Go.RowKit Go.Joins Go.Shelf Go.Maps
def ZF (L:List Nat)(pre:List (yw L)):Nat:=match pre.getLast? with
  | none=>0
  | some k=>nth L k.1
theorem qaH (L:List Nat)(o:List (yw L))(x:yw L):ZF L (o++[x])=nth L x.1:=by simp[ZF]
def SpotI (w1:World)(L:List Nat)(row:Int)(pre:List (yw L))(W:World):Prop:=
  (∀k∈pre,(k.1:Int)<row)∧W.heap[w1.heap.size]? =some (Obj.cells #[.int .u64 (ZF L pre)] 44 (0,0))∧Below w1.heap.size w1 W
def ZZ (f l total:Nat)(row at_ n b:Nat):Array Value:=
  if 1≤row∧n=1 then #[.int .i64 row,.int .u64 at_,.int .u64 0,.int .u64 b,.bool ((at_:Int)==(n:Int) - 1),.bool true]
  else if(at_:Int)=(n:Int) - 1 then #[.int .i64 row,.int .u64 at_,.int .u64 (IntKind.u64.wrap (at_*(if row=0 then l else f:Nat))),.int .u64 (if row=0 then total else b:Nat),.bool true,.bool false]
  else #[.int .i64 row,.int .u64 at_,.int .u64 (IntKind.u64.wrap (at_*(if row=0 then l else f:Nat))),.int .u64 (IntKind.u64.wrap (((at_:Int)+1)*(if row=0 then l else f:Nat))),.bool false,.bool false]
def SpotX (w:World)(t:TreeV)(total:Nat)(L:List Nat)(row:Int)(at_:Nat)(c:Code)(pre:List (yw L))(W:World):Prop:=
  (∃ini k,pre=ini++[k]∧(∀j∈ini,(j.1:Int)<row)∧row≤(k.1:Nat)∧
    ((c= .ret∧0≤row∧at_<nth L k.1∧W.heap[w.heap.size+1+1+1+1]? =some (Obj.cells (ZZ t.fn t.ln total row.toNat at_ (nth L k.1) (ZF L ini)) 96 (0,0))∧
        W.heap[w.heap.size+1+1+1+1+1]? =some (Obj.cells #[.int .i64 0] 30 (0,0)))∨
     (c= .exit 0∧(row<0∨nth L k.1≤at_)∧W.heap[w.heap.size+1+1+1+1]? =some (Obj.cells SpotV.zero.val.cells 96 (0,0))∧
        W.heap[w.heap.size+1+1+1+1+1]? =some (Obj.cells #[.int .i64 0] 30 (0,0)))))∧Below w.heap.size w W
theorem je {β:Type}(B b:Nat)(f:β→Array Value)(T:TypeId)(fr:Nat×Nat):OwnFrom B (fun(s:β) W=>W.heap[b]? =some (Obj.cells (f s) T fr)):=by
  intro s W W' row q I G;refine(I.block b (Ai q).1 (fun e=>?_)).trans q;obtain⟨-,o,r,D⟩:=G b e.symm;rw[q]at r
  cases r
  cases D
theorem SpotI.own {w1:World}{L:List Nat}{row:Int}{B:Nat}(I:w1.heap.size≤B):OwnFrom B (SpotI w1 L row):=
  fun s W W' r o G D=>⟨o.1,je B w1.heap.size (fun q:List (yw L)=> #[.int .u64 (ZF L q)]) _ _ s W W' r o.2.1 G D,ownFrom_below (β:=List (yw L)) Nl I s W W' r o.2.2 G D⟩
theorem SpotX.own {w:World}{t:TreeV}{total:Nat}{L:List Nat}{row:Int}{at_:Nat}{c:Code}{B:Nat}(U:w.heap.size≤B):OwnFrom B (SpotX w t total L row at_ c):=by
  intro s W W' r hs o q;obtain⟨⟨J,k,h1,V,Z,Y⟩,O⟩:=hs;refine⟨⟨J,k,h1,V,Z,?_⟩,ownFrom_below (β:=List (yw L)) Nl U s W W' r O o q⟩;rcases Y with⟨e,D,X,I,G⟩|⟨e,D,I,G⟩
  · exact .inl ⟨e,D,X,je B _ (fun _:Unit=>_) _ _ () W W' r I o q,je B _ (fun _:Unit=>_) _ _ () W W' r G o q⟩
  · exact .inr ⟨e,D,je B _ (fun _:Unit=>_) _ _ () W W' r I o q,je B _ (fun _:Unit=>_) _ _ () W W' r G o q⟩
def RetP (B:Nat)(w:World)(t:TreeV)(total:Nat)(L:List Nat)(row:Int)(at_:Nat)(xs:List (yw L))(W W':World):Prop:=KeepsFrom B W W'∧SpotX w t total L row at_ .ret xs W'
theorem RetP.drew {B:Nat}{w:World}{t:TreeV}{total:Nat}{L:List Nat}{row:Int}{at_:Nat}{xs:List (yw L)}{W W':World}(h:RetP B w t total L row at_ xs W W'):RetP B w t total L row at_ xs W W'.drew:=
  ⟨h.1.trans ((KeepsOthers.drew _).from _),h.2.1,h.2.2.drew⟩
theorem ZW {B:Nat}{w:World}{t:TreeV}{total:Nat}{L:List Nat}{row:Int}{at_:Nat}{q:List (yw L)}{x:yw L}{W:World}{a0 a1 a2 a3 a4 Z b0 V X G r O U:Value}{o:Obj}
    (Y: ∀k∈q,(k.1:Int)<row) (hr:0≤row) (hk:row≤(x.1:Nat)) (D:at_<nth L x.1) (hB:Below w.heap.size w W)
    (J:W.heap[w.heap.size+1+1+1+1]? =some (Obj.cells #[a0,a1,a2,a3,a4,Z] 96 (0,0))) (I:W.heap[w.heap.size+1+1+1+1+1]? =some (Obj.cells #[b0] 30 (0,0)))
    (hv:ZZ t.fn t.ln total row.toNat at_ (nth L x.1) (ZF L q)= #[V,X,G,r,O,U]):
    RetP B w t total L row at_ (q++[x]) W ((((((((W.setCell ⟨w.heap.size+1+1+1+1,0,none⟩ V).setCell ⟨w.heap.size+1+1+1+1,1,none⟩ X).setCell ⟨w.heap.size+1+1+1+1,2,none⟩ G).setCell ⟨w.heap.size+1+1+1+1,3,none⟩ r).setCell ⟨w.heap.size+1+1+1+1,4,none⟩ O).setCell ⟨w.heap.size+1+1+1+1,5,none⟩ U).setCell ⟨w.heap.size+1+1+1+1+1,0,none⟩ (.int .i64 0)).alloc o):=by
  have s4:=(Ai J).1;have s5:=(Ai I).1;refine⟨((((((((KeepsOthers.setCell W _ _).trans (KeepsOthers.setCell _ _ _)).trans (KeepsOthers.setCell _ _ _)).trans (KeepsOthers.setCell _ _ _)).trans (KeepsOthers.setCell _ _ _)).trans (KeepsOthers.setCell _ _ _)).trans (KeepsOthers.setCell _ _ _)).trans (KeepsOthers.alloc _ _)).from _,
    ⟨q,x,rfl,Y,hk,.inl ⟨rfl,hr,D,?_,?_⟩⟩,((yb hB (by omega) _ _ _ _ _ _).setCell (p:=⟨w.heap.size+1+1+1+1+1,0,none⟩) (by show w.heap.size≤w.heap.size+1+1+1+1+1;omega) _).alloc (by simp;omega) _⟩
  · rw[Bh _ _ _ (by simp;omega),Below.heap_setCell _ _ _ _ (by simp),hv]
    exact ya J _ _ _ _ _ _
  · rw[Bh _ _ _ (by simp;omega)]
    exact block_setCell ((YO (by omega) _ _ _ _ _ _).trans I) _
theorem qgb {f p total l:Nat}{L:List Nat}(I:1≤l)(J:(total:Int)≤18446744073709551615)(h:RowsIs f p (lvs total l) L){row at_ b:Nat}(U:row<L.length)(X:at_<nth L row)(D:1≤row→b=nth L (row - 1)):
    ZZ f l total row at_ (nth L row) b=(QT f l total L row at_).val.cells:=by
  have G:((at_:Int)==(nth L row:Int) - 1)=decide (at_=nth L row - 1):=by
    rw[Bool.eq_iff_iff,beq_iff_eq,decide_eq_true_iff];omega
  unfold ZZ QT;by_cases q:1≤row∧nth L row=1
  · rw[if_pos q,if_pos q,D q.1,G];rfl
  · obtain⟨b1,b2, -⟩:=ZY I h U X q
    have V:(if row=0 then total else b)=(if row=0 then total else nth L (row - 1)):=by
      by_cases o:row=0
      · rw[if_pos o,if_pos o]
      · rw[if_neg o,if_neg o,D (by omega)]
    have Y:((if row=0 then total else nth L (row - 1):Nat):Int)≤18446744073709551615:=by
      by_cases o:row=0
      · rw[if_pos o];exact J
      · rw[if_neg o];exact zl I J h _ (by omega)
    have w1:IntKind.u64.wrap ((at_:Int)*((if row=0 then l else f:Nat):Int))=((at_*(if row=0 then l else f):Nat):Int):=by
      rw[wrap_u64,←Int.natCast_mul];omega
    rw[if_neg q,if_neg q,w1,V];by_cases r:at_=nth L row - 1
    · rw[if_pos (show(at_:Int)=(nth L row:Int) - 1 by omega),if_pos r];rfl
    · have Z:=b2 r
      have O:IntKind.u64.wrap (((at_:Int)+1)*((if row=0 then l else f:Nat):Int))=(((at_+1)*(if row=0 then l else f):Nat):Int):=by
        rw[wrap_u64,show((at_:Int)+1)=((at_+1:Nat):Int) by omega,←Int.natCast_mul];omega
      rw[if_neg (show ¬(at_:Int)=(nth L row:Int) - 1 by omega),if_neg r,O];rfl
theorem Jj {L:List Nat}{o:List (yw L)}{k:yw L}(h:(o++[k]).map (·.1)=List.range (o++[k]).length):k.1=o.length∧o.map (·.1)=List.range o.length:=by
  rw[List.map_append,List.length_append,List.length_singleton,List.range_succ]at h;have:=List.append_inj h (by simp)
  exact⟨by simpa using this.2,this.1⟩
theorem qco {L:List Nat}{o:List (yw L)}(h:o.map (·.1)=List.range o.length){row:Int}(r: ∀j∈o,(j.1:Int)<row):(o.length:Int)≤row∨o=[]:=by
  by_cases q:o=[]
  · exact .inr q
  · refine .inl ?_
    have I:0<o.length:=List.length_pos_iff.2 q;have D:o.length - 1∈o.map (·.1):=by rw[h];exact List.mem_range.2 (by omega)
    obtain⟨j,G,e⟩:=List.mem_map.1 D;have:=r j G
    omega
theorem qgQ {L:List Nat}{o:List (yw L)}(h:o.map (·.1)=List.range o.length)(q:1≤o.length):ZF L o=nth L (o.length - 1):=by
  obtain⟨a,k,rfl⟩: ∃a k,o=a++[k]:=⟨_,_,(List.dropLast_concat_getLast (by intro e;subst e;simp at q)).symm⟩;rw[qaH,(Jj h).1];congr 1
  simp
theorem qeQ {t:TreeV}{total:Nat}(V:(total:Int)≤18446744073709551615)(U:1≤t.ln)(h:t.err total=0){row:Int}{at_:Nat}{o:List (yw (t.rowsOf total))}{k:yw (t.rowsOf total)}
    (O:(o++[k]).map (·.1)=List.range (o++[k]).length) (I: ∀j∈o,(j.1:Int)<row) (X:row≤(k.1:Nat)) (J:0≤row) (G:at_<nth (t.rowsOf total) k.1):
    t.there total row at_∧ZZ t.fn t.ln total row.toNat at_ (nth (t.rowsOf total) k.1) (ZF _ o)=(t.spot total row.toNat at_).val.cells:=by
  obtain⟨r,D⟩:=Jj O;have q:row.toNat=k.1:=by
    rcases qco D I with g|g
    · omega
    · subst g
      simp at r
      omega
  rw[q];refine⟨⟨J,by rw[q];exact k.2,by rw[q];exact G⟩,qgb U V (qM h) k.2 G (fun g=>?_)⟩;rw[qgQ D (by omega),r]
theorem qbZ {t:TreeV}{total:Nat}{row:Int}{at_:Nat}{o:List (yw (t.rowsOf total))}{k:yw (t.rowsOf total)}
    (J:(o++[k]).map (·.1)=List.range (o++[k]).length) (q: ∀j∈o,(j.1:Int)<row) (V:row≤(k.1:Nat)) (O:row<0∨nth (t.rowsOf total) k.1≤at_): ¬t.there total row at_:=by
  rintro⟨X,U,I⟩
  obtain⟨D,G⟩:=Jj J;have r:row.toNat=k.1:=by
    rcases qco G q with g|g
    · omega
    · subst g
      simp at D
      omega
  rw[r]at I;omega
theorem qga {t:TreeV}{total:Nat}{row:Int}{at_:Nat}{ys:List (yw (t.rowsOf total))}(D:ys.map (·.1)=List.range (t.rowsOf total).length)(o: ∀j∈ys,(j.1:Int)<row): ¬t.there total row at_:=by
  rintro⟨I,r, -⟩
  have q:row.toNat∈ys.map (·.1):=by rw[D];exact List.mem_range.2 r
  obtain⟨j,G,e⟩:=List.mem_map.1 q;have:=o j G
  omega
end Go.Proofs.YthjoojnlnlmljaaGreat
