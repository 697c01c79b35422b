/- What a path leads to, told of all; Check on both sides. No condition. -/
import Derived.Test.YthjoojnlnlmljaaGreatP41
import Derived.Test.YthjoojnlnlmljaaGreatP42
import Derived.Test.YthjoojnlnlmljaaGreatP39
set_option linter.all false
set_option maxRecDepth 100000
set_option maxHeartbeats 8000000
namespace Go.Proofs.YthjoojnlnlmljaaGreat
open Go.ChangeShapes Go.WideShapes Go.ChangeAt Go.RowKit Go.Joins Go.Shelf Go.Maps
attribute [local go_sem] Oper.semAt_some
theorem TreeH.below {w w':World}{t:TreeV}{q z1 z2:List Int}(h:TreeH w t q z1 z2)(o:Below w.heap.size w w'):TreeH w' t q z1 z2:=⟨h.k.below o,h.s.below o,h.p.below o⟩
end Go.Proofs.YthjoojnlnlmljaaGreat
namespace Go.Proofs.YthjoojnlnlmljaaGreat
open Go.ChangeShapes Go.WideShapes Go.ChangeAt Go.RowKit Go.Joins Go.Shelf Go.Maps
theorem jt {t:TreeV}(h:t.validE=0)(D:0≤t.l∧t.l≤4294967295)(o z1 z2 zs:List Int)(V:zs.length≤4194304){m k:Nat}(J:(t.rowsOf zs.length).length - 1=m)(U:k<m): ∀d∈t.lvlZ o z1 z2 (t.leafZ o z1 z2 zs) k,(d.length:Int)=t.i∧ ∀a∈d,0≤a∧a≤255:=by
 have I:=YS h V;have X:=Qt h D o z1 z2 zs;have q:=qdz I o z1 z2 (YP h D o z1 z2 zs) X.2.2;rw[J]at q;have G:t.rtR o z1 z2 zs k=false:=by
  cases k with
  | zero=>rfl
  | succ r=>
   have:=q.2.2 (r+1) (by omega) U
   rw[Nat.add_sub_cancel]at this;exact this
 rw[TreeV.lvl_is,G];intro d O;obtain⟨i, -,rfl⟩:=List.mem_map.1 O;exact⟨qaV h ..,fun a Y=>yQ _ _ _ _ _ _ _ _ _ a Y⟩
theorem qaT {t:TreeV}(h:t.validE=0)(I:0≤t.l∧t.l≤4294967295)(q z1 z2 zs:List Int)(hn:zs.length≤1048576){o m:Nat}(he:t.spotE zs.length 0 o=0)(hm:(t.rowsOf zs.length).length - 1=m):
  FitsP t.i m (chI t zs.length o) (afI t zs.length o) (t.stepsZ q z1 z2 zs o m)∧qf0 1048576 (t.stepsZ q z1 z2 zs o m):=by
 have U:=YS h (show zs.length≤4194304 by omega);have J:=qM U;have ag:=J.len;have ae:=J.most;have O:=Qt h I q z1 z2 zs;have aa:=yc U q z1 z2 (YP h I q z1 z2 zs) O.2.2;obtain⟨ac, -,i1,i2, -⟩:=qa7 I (show(zs.length:Int)≤18446744073709551615 by omega) he;have V:=qo h;have ah:t.pn≤255:=by have:=V.2.2.2.2.2.2.2.1;unfold TreeV.pn;omega
 have G: ∀k,k<m→((t.stepZ q z1 z2 zs o k).1.length:Int)=chI t zs.length o k∧((t.stepZ q z1 z2 zs o k).2.length:Int)=afI t zs.length o k∧(t.stepZ q z1 z2 zs o k).1.length≤1048576∧(t.stepZ q z1 z2 zs o k).2.length≤1048576∧
   ∀d∈(t.stepZ q z1 z2 zs o k).1++(t.stepZ q z1 z2 zs o k).2,(d.length:Int)=t.i∧ ∀a∈d,0≤a∧a≤255:=fun k Y=>by
  have X:=ac k (by omega);have ab:=Yy (l:=t.ln) (by have:=V.2.2.2.2.2.2.2.2.1;unfold TreeV.ln;omega) J (k:=k+1) (by omega) (by omega) (Yv J (qaa I he).2.2.2 (k+1) (by omega));have af:(qB t zs.length o (k+1)).to_≤nth (t.rowsOf zs.length) k:=ab;have ai:=aa k (by omega);have hF:=Qk h q z1 z2 O.1 O.2.2 k;have e1:=X.le;have e2:=X.lt;have h3:=O.2.1;have h4:=hF.2.1;have ad:=jt h I q z1 z2 zs (by omega) hm Y;have Z:(t.stepZ q z1 z2 zs o k).1.length=chN t zs.length o k:=by
   unfold TreeV.stepZ chN;simp only[List.length_take,List.length_drop];omega
  have l2:(t.stepZ q z1 z2 zs o k).2.length=afN t zs.length o k:=by
   unfold TreeV.stepZ afN;simp only[List.length_take,List.length_drop];omega
  refine⟨by rw[Z,qhR X],by rw[l2];rfl,?_,?_,fun d r=>?_⟩
  ·rw[Z];unfold chN;omega
  ·rw[l2];unfold afN;omega
  ·refine ad d ?_;rcases List.mem_append.1 r with r|r
   ·exact List.mem_of_mem_drop (List.mem_of_mem_take r)
   ·exact List.mem_of_mem_drop (List.mem_of_mem_take r)
 refine⟨⟨Q1 ..,fun j hj=>?_⟩,?_,fun s hs=>?_⟩
 ·obtain⟨a1,a2, -, -,D⟩:=G j hj;unfold qey;rw[yM _ _ _ _ _ _ hj];exact⟨a1,a2,fun d r=>(D d r).1⟩
 ·rw[Q1];omega
 ·obtain⟨k,Y,rfl⟩:=List.mem_map.1 hs;obtain⟨-, -,a3,a4,D⟩:=G k (List.mem_range.1 Y);exact⟨⟨a3,fun d r=>⟨by have:=(D d (List.mem_append_left _ r)).1;omega,(D d (List.mem_append_left _ r)).2⟩⟩,⟨a4,fun d r=>⟨by have:=(D d (List.mem_append_right _ r)).1;omega,(D d (List.mem_append_right _ r)).2⟩⟩⟩
theorem qaZ {B:Nat}{w:World}{v:Value}{L:List (List Int)}{ds:List Value}(h:DigV B w v L ds):pRowsAt w v L:=by
 rcases h.1.2 with⟨rfl,e⟩|⟨g,o,J,rfl, -⟩
 ·exact⟨none,0,fun _=>undef,by rw[e],fun _=>rfl,.inl (List.eq_nil_of_length_eq_zero e)⟩
 ·refine⟨_,o,fun i=>ds.getD i undef,rfl,(fun e=>by cases e),?_⟩;by_cases q:L.length=0
  ·exact .inl (List.eq_nil_of_length_eq_zero q)
  ·obtain⟨O,G,e, -,D,I⟩:=z7 h.1 (by omega);simp only[Value.slice.injEq,Option.some.injEq,Addr.mk.injEq,and_true,true_and]at e;obtain⟨rfl, -⟩:=e;refine .inr ⟨g,0,rfl,D,fun i r=>⟨?_,(h.2 i r).hold.holds8⟩⟩;rw[Nat.zero_add];refine I i _ ?_;have:=h.len
   show ds[i]? =some (ds.getD i undef)
   rw[Lg,List.getElem?_eq_getElem (by omega)];rfl
theorem qg0 {B m o:Nat}{w:World}{u:Value}{xs:List Value}{DS:List (List Value)}{t:TreeV}{r z1 z2 zs:List Int}(Z:w.ownsRow B 69 2 u m xs)(h:ListsV B w xs (t.llZ r z1 z2 zs o m) DS):StepsAt w u (t.stepsZ r z1 z2 zs o m):=by
 have aa:=TreeV.llZ_length t r z1 z2 zs o m;have q:=Q1 t r z1 z2 zs o m;rcases Z.2 with⟨rfl,e⟩|⟨g,O,U,rfl,h1,I,h3,h4,h5,Y⟩
 ·exact⟨none,0,fun _=>undef,fun _=>undef,by rw[q,e],fun _=>rfl,.inl (List.eq_nil_of_length_eq_zero (by omega))⟩
 ·refine⟨_,O,fun i=>xs.getD (i*2) undef,fun i=>xs.getD (i*2+1) undef,by rw[q],(fun e=>by cases e),.inr ⟨g,0,rfl,(Ai I).1,fun i D=>?_⟩⟩;rw[q]at D;have hx:=h.lx;have G: ∀j,j<m*2→w.cell? ⟨g,0+j,none⟩=some (xs.getD j undef):=fun j hj=>by
   rw[qd I (0+j),Nat.zero_add];have e:U.toList[j]? =xs[j]? :=by rw[←Y,List.getElem?_take,if_pos (by omega)]
   rw[←Array.getElem?_toList,e,Lg,List.getElem?_eq_getElem (by omega)];rfl
  have V:=ZI t r z1 z2 zs o m i D;rw[yM _ _ _ _ _ _ D];have J:=qaZ (h.each (i*2) (by omega));have X:=qaZ (h.each (i*2+1) (by omega));rw[V.1]at J;rw[V.2]at X;exact⟨G _ (by omega),by have:=G (i*2+1) (by omega);rw[show 0+(i*2+1)=0+i*2+1 by omega]at this;exact this,J,X⟩
end Go.Proofs.YthjoojnlnlmljaaGreat
