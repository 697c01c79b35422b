/- A region that draws its order, in a world that grows only: each operation's slot says what it must, in whatever order; then a tail of operations of which each waits for all before it. No condition. -/
import Derived.Test.YthjoojnlnlmljaaGreatP13
import Derived.Test.YthjoojnlnlmljaaGreatP06
import Derived.Test.YthjoojnlnlmljaaGreatP02
import Derived.Below
import Derived.Laws.Tables
set_option linter.all false
set_option maxRecDepth 100000
set_option maxHeartbeats 8000000
namespace Go.Proofs.YthjoojnlnlmljaaGreat
open Go Go.RowKit
theorem zH {P:Program}{o:Oper}{a:Act}{w:World}{K:Act→World→Prop}{Q:Exit→Act→World→Prop}(t:TypeId)(q:Array (Nat×Operand))(D:o.op= .build t q)(cells:Array Value)
  (r:P.built t (q.map fun(i,x)=>(i,a.eval x)).toList=some cells) (h:K (a.put o.dst (.agg cells)) w):o.wp P a w K Q:=
 wp_build t q D (by rw[r];rfl) (by rw[r];exact h)
def yu (p:Nat→Oper→Prop):Nat→List Oper→Prop
 | _,[]=>True
 | n,o::l=>p n o∧yu p (n+1) l
theorem qx {p:Nat→Oper→Prop}{n:Nat}{o:Oper}{l:List Oper}(h:p n o)(q:yu p (n+1) l):yu p n (o::l):=⟨h,q⟩
theorem qz {p:Nat→Oper→Prop}{n:Nat}:yu p n []:=trivial
theorem qek {p:Nat→Oper→Prop}: ∀(l:List Oper) (n:Nat),yu p n l→ ∀i o,l[i]? =some o→p (n+i) o
 | [],_,_,i,o,hi=>by simp at hi
 | _::_,n,h,0,o,hi=>by simp at hi;subst hi;exact h.1
 | _::l,n,h,i+1,o,hi=>by
  have:=qek l (n+1) h.2 i o (by simpa using hi)
  rw[show n+(i+1)=n+1+i by omega];exact this
theorem Yp {p:Nat→Oper→Prop}{l:List Oper}(h:yu p 0 l): ∀i o,l[i]? =some o→p i o:=fun i o q=>by
 have:=qek l 0 h i o q
 rwa[Nat.zero_add]at this
def QN (gs:List (Value→World→Prop))(i:Nat)(v:Value)(W:World):Prop:=match gs[i]? with
 | some g=>g v W
 | none=>True
def qf1:List (Value→World→Prop)→Prop
 | []=>True
 | g::gs=>(∀v W W',g v W→Below W.heap.size W W'→g v W')∧qf1 gs
theorem qbI: ∀{gs:List (Value→World→Prop)},qf1 gs→ ∀{i:Nat} {v:Value} {W W':World},QN gs i v W→Below W.heap.size W W'→QN gs i v W'
 | [],_,i,v,W,W',_,_=>by unfold QN;simp
 | g::gs,h,0,v,W,W',hg,hb=>h.1 v W W' hg hb
 | g::gs,h,i+1,v,W,W',hg,hb=>by
  have:=qbI (gs:=gs) h.2 (i:=i) (v:=v) (W:=W) (W':=W') (by unfold QN at hg⊢;simpa using hg) hb
  unfold QN at this⊢;simpa using this
def ZU (md:Region.Mode):List Oper→List Oper→Bool
 | _,[]=>true
 | init,o::t=>qab md init o init.length&&qcK md init&&ZU md (init++[o]) t
def qW (P:Program):List Oper→List Oper→(Exit→Act→World→Prop)→Exit→Act→World→Prop
 | _,[],Q=>Q
 | init,o::t,Q=>JW P (init++[o]).toArray o (qW P (init++[o]) t Q)
theorem qp {P:Program}{q t:List Oper}{o:Oper}{Q:Exit→Act→World→Prop}{a:Act}{w:World}(h:wpList P (q++[o]).toArray (qW P (q++[o]) t Q) [o] a w):qW P q (o::t) Q .normal a w:=h
theorem qw {P:Program}{o:List Oper}{Q:Exit→Act→World→Prop}{a:Act}{w:World}(h:Q .normal a w):qW P o [] Q .normal a w:=h
theorem zt {P:Program}{md:Region.Mode}{Q:Exit→Act→World→Prop}{a:Act}{w:World}: ∀(tail q:List Oper),ZU md q tail=true→
  wpAny P md q.toArray (qW P q tail Q) q.length (Array.replicate q.length false) a w→wpAny P md (q++tail).toArray Q (q.length+tail.length) (Array.replicate (q.length+tail.length) false) a w
 | [],q,_,h=>by simpa [qW] using h
 | o::t,q,hb,h=>by
  simp only[ZU,Bool.and_eq_true]at hb;have J:=zt (P:=P) (Q:=Q) (a:=a) (w:=w) t (q++[o]) hb.2 (by
   have r:(q++[o]).toArray=q.toArray.push o:=by simp
   have I:(q++[o]).length=q.length+1:=by simp
   have U:Array.replicate (q.length+1) false=(Array.replicate q.length false).push false:=by
    rw[Array.replicate_succ]
   rw[I,U,r];refine Jg (by simpa using hb.1.1) (by simpa using hb.1.2) _ _ _ _ (by simp) ?_ (by rw[←r];exact h);intro j V O G;exfalso
   have D:=(Ai O).1;simp only[List.size_toArray]at D;rw[Lh,Array.getElem?_replicate,if_pos D]at G
   cases G)
  have r:q++[o]++t=q++o::t:=by simp
  have I:(q++[o]).length+t.length=q.length+(o::t).length:=by simp;omega
  rw[r,I]at J;exact J
theorem qea (a0:Act)(x:Tmp→Value): ∀ds,(lay a0 x ds).tmps.size=a0.tmps.size
 | []=>rfl
 | d::ds=>by
  show((lay a0 x ds).put (some d) (x d)).tmps.size=_
  simp[Act.put,qea a0 x ds]
theorem qfR (a0:Act)(x:Tmp→Value){d:Tmp}: ∀ds,d∉ds→(lay a0 x ds).tmps.getD d undef=a0.tmps.getD d undef
 | [],_=>rfl
 | e::ds,h=>by
  show((lay a0 x ds).put (some e) (x e)).tmps.getD d undef=_
  have q:e≠d:=fun o=>h (by simp[o])
  rw[←qfR a0 x ds (fun o=>h (by simp[o]))];simp[Act.put,Lh,Array.getElem?_setIfInBounds,q]
theorem qhC (a0:Act)(x:Tmp→Value){d:Tmp}(r:d<a0.tmps.size): ∀ds,d∈ds→(lay a0 x ds).tmps.getD d undef=x d
 | e::ds,h=>by
  show((lay a0 x ds).put (some e) (x e)).tmps.getD d undef=_
  by_cases q:e=d
  ·subst q;have D:e<(lay a0 x ds).tmps.size:=by rw[qea];exact r
   simp[Act.put,Lh,Array.getElem?_setIfInBounds,D]
  ·have o:d∈ds:=by
    rcases List.mem_cons.1 h with o|o
    ·exact absurd o.symm q
    ·exact o
   rw[←qhC a0 x r ds o];simp[Act.put,Lh,Array.getElem?_setIfInBounds,q]
def Zm (a0:Act)(x:Tmp→Value)(ds:List Tmp)(A:Act):Prop:=(∀d,d∈ds→A.tmps.getD d undef=x d)∧ ∀d,d∉ds→A.tmps.getD d undef=a0.tmps.getD d undef
theorem JJ {a0:Act}{x:Tmp→Value}{ds:List Tmp}(h: ∀d∈ds,d<a0.tmps.size):Zm a0 x ds (lay a0 x ds):=⟨fun d o=>qhC a0 x (h d o) ds o,fun d o=>qfR a0 x ds o⟩
def StepO (P:Program)(init:List Oper)(ds:List Tmp)(a0:Act)(B:Nat)(w0:World)(gs:List (Value→World→Prop))(Q:Exit→Act→World→Prop)(i:Nat)(o:Oper):Prop:=
 ∀(A:Act) (x:Tmp→Value) (W:World),Zm a0 x ds A→Below B w0 W→B≤W.heap.size→(∀e∈o.after,Region.binds .any e=true→ ∀oe,init[e.on]? =some oe→QN gs e.on (qJ x oe) W)→
  ∀K:Act→World→Prop,(∀v W',Below W.heap.size W W'→QN gs i v W'→K (A.put o.dst v) W')→Oper.wp P o A W K Q
theorem qaK {P:Program}{id:Nat}{w w0:World}{Q:Exit→Act→World→Prop}{a0:Act}{B:Nat}{l q tail:List Oper}{n:Nat}(ds:List Tmp)(gs:List (Value→World→Prop))(r:l.take n=q)(ht:l.drop n=tail)(ad:q.filterMap (·.dst)=ds)(af:(ds.all fun d=>decide (d<a0.tmps.size))=true)(ae:ds.Nodup)(O:Yq q=true)
  (hg:(q.all fun o=>o.guard.isNone&&o.dst.isSome)=true) (hb:ZU .any q tail=true) (hm:P.follows .mixedOrders=true) (hw:Below B w0 w.drew) (hB:B≤w0.heap.size) (ac:qf1 gs)
  (J:yu (StepO P q ds a0 B w0 gs (qW P q tail Q)) 0 q)
  (aa: ∀(x:Tmp→Value) (W:World),Below B w0 W→B≤W.heap.size→yu (fun i o=>QN gs i (qJ x o) W) 0 q→qW P q tail Q .normal (lay a0 x ds) W):
  (Code.region id l.toArray true).wp P Q a0 w:=by
 have Z:l=q++tail:=by rw[←r,←ht];exact(List.take_append_drop _ _).symm
 clear r ht;subst Z;subst ad;have I:=fun o D=>List.all_eq_true.1 hg o D
 refine wp_region_any hm ?_;have e:(q++tail).toArray.size=q.length+tail.length:=by simp
 rw[e];refine zt tail q hb ?_;have H:=qcf (P:=P) (ops:=q) (a0:=a0) (Q:=qW P q tail Q) (R:=fun W=>Below B w0 W) (Good:=QN gs) ae O (fun i o r x W G X K hK=>by
   have D:=I o (List.mem_of_getElem? r);simp only[Bool.and_eq_true,Option.isNone_iff_eq_none]at D;have U:B≤W.heap.size:=Nat.le_trans hB G.size;rw[if_pos (by simp[Region.wanted,D.1])];exact Yp J i o r _ x W (JJ (fun d Y=>of_decide_eq_true (List.all_eq_true.1 af d Y))) G U X K (fun v W' V ab=>hK v W' (G.trans (V.mono U)) (fun j u _ hj=>qbI ac hj V) ab))
  (fun i o v W r Y=>by
   have D:=I o (List.mem_of_getElem? r);rw[Y]at D;simp at D)
  (fun x W G hG=>aa x W G (Nat.le_trans hB G.size) (by
   have: ∀(l:List Oper) (n:Nat),(∀i o,l[i]? =some o→QN gs (n+i) (qJ x o) W)→yu (fun i o=>QN gs i (qJ x o) W) n l:=by
    intro l;induction l with
    | nil=>intro n _;trivial
    | cons o l ih=>
     intro n h;refine⟨by simpa using h 0 o (by simp),ih (n+1) (fun i o' r=>?_)⟩;have:=h (i+1) o' (by simpa using r)
     rw[show n+1+i=n+(i+1) by omega];exact this
   exact this q 0 (fun i o r=>by rw[Nat.zero_add];exact hG i o r)))
  q.length (Array.replicate q.length false) (fun d=>a0.tmps.getD d undef) w.drew (by simp) (by
   simp only[Array.toList_replicate,ZT,List.countP_replicate];simp) hw (fun i o r Z=>by
   have ag:i<q.length:=(List.getElem?_eq_some_iff.1 r).1;simp[Lh,ag]at Z)
 rw[jG]at H;exact H
def StepR (P:Program)(init:List Oper)(ds:List Tmp)(a0:Act)(R:World→Prop)(gs:List (Value→World→Prop))(Q:Exit→Act→World→Prop)(i:Nat)(o:Oper):Prop:=
 ∀(A:Act) (x:Tmp→Value) (W:World),Zm a0 x ds A→R W→(∀e∈o.after,Region.binds .any e=true→ ∀oe,init[e.on]? =some oe→QN gs e.on (qJ x oe) W)→
  ∀K:Act→World→Prop,(∀v W',R W'→(∀j u,j≠i→QN gs j u W→QN gs j u W')→QN gs i v W'→K (A.put o.dst v) W')→Oper.wp P o A W K Q
theorem qbX {P:Program}{id:Nat}{w:World}{Q:Exit→Act→World→Prop}{a0:Act}{l q tail:List Oper}{n:Nat}(R:World→Prop)(ds:List Tmp)(gs:List (Value→World→Prop))(r:l.take n=q)(ht:l.drop n=tail)(aa:q.filterMap (·.dst)=ds)(ad:(ds.all fun d=>decide (d<a0.tmps.size))=true)(ab:ds.Nodup)(G:Yq q=true)
  (hg:(q.all fun o=>o.guard.isNone)=true) (hb:ZU .any q tail=true) (hm:P.follows .mixedOrders=true) (hw:R w.drew)
  (ac:yu (fun i o=>o.dst=none→ ∀v W,QN gs i v W→QN gs i undef W) 0 q)
  (D:yu (StepR P q ds a0 R gs (qW P q tail Q)) 0 q)
  (X: ∀(x:Tmp→Value) (W:World),R W→yu (fun i o=>QN gs i (qJ x o) W) 0 q→qW P q tail Q .normal (lay a0 x ds) W):
  (Code.region id l.toArray true).wp P Q a0 w:=by
 have V:l=q++tail:=by rw[←r,←ht];exact(List.take_append_drop _ _).symm
 clear r ht;subst V;subst aa;have Y:=fun o I=>List.all_eq_true.1 hg o I
 refine wp_region_any hm ?_;have e:(q++tail).toArray.size=q.length+tail.length:=by simp
 rw[e];refine zt tail q hb ?_;have H:=qcf (P:=P) (ops:=q) (a0:=a0) (Q:=qW P q tail Q) (R:=R) (Good:=QN gs) ab G (fun i o r x W O J K hK=>by
   have I:=Y o (List.mem_of_getElem? r);simp only[Option.isNone_iff_eq_none]at I;rw[if_pos (by simp[Region.wanted,I])];exact Yp D i o r _ x W (JJ (fun d U=>of_decide_eq_true (List.all_eq_true.1 ad d U))) O J K hK)
  (fun i o v W r U Z=>Yp ac i o r U v W Z)
  (fun x W O hG=>X x W O (by
   have: ∀(l:List Oper) (n:Nat),(∀i o,l[i]? =some o→QN gs (n+i) (qJ x o) W)→yu (fun i o=>QN gs i (qJ x o) W) n l:=by
    intro l;induction l with
    | nil=>intro n _;trivial
    | cons o l ih=>
     intro n h;refine⟨by simpa using h 0 o (by simp),ih (n+1) (fun i o' r=>?_)⟩;have:=h (i+1) o' (by simpa using r)
     rw[show n+1+i=n+(i+1) by omega];exact this
   exact this q 0 (fun i o r=>by rw[Nat.zero_add];exact hG i o r)))
  q.length (Array.replicate q.length false) (fun d=>a0.tmps.getD d undef) w.drew (by simp) (by
   simp only[Array.toList_replicate,ZT,List.countP_replicate];simp) hw (fun i o r V=>by
   have ae:i<q.length:=(List.getElem?_eq_some_iff.1 r).1;simp[Lh,ae]at V)
 rw[jG]at H;exact H
theorem BR {B:Nat}{w:World}:Below B w w:=Below.refl _ _
theorem kW {g:Value→Prop}: ∀(W W':World),Below W.heap.size W W'→ ∀v,g v→g v:=fun _ _ _ _ h=>h
theorem gv {a0 A:Act}{x:Tmp→Value}{ds:List Tmp}{gs:List (Value→World→Prop)}{r:List Oper}{W:World}{o:Array Edge}{v:Value}{q:Oper}(G:Zm a0 x ds A)
    (D: ∀e∈o,Region.binds .any e=true→ ∀q,r[e.on]? =some q→QN gs e.on (qJ x q) W) (i s:Nat)
    (U:s∈ds:=by decide) (I:(⟨i,.data⟩:Edge)∈o:=by simp) (O:r[i]? =some q:=by rfl) (J:qJ x q=x s:=by rfl) (V:QN gs i=(fun u _=>u=v):=by rfl):A.tmps.getD s undef=v:=by
  have:=D _ I rfl q O
  rw[V,J]at this;exact(G.1 s U).trans this
def setD (D:Nat→Bool)(i:Nat):Nat→Bool:=fun j=>D j||j==i
def yS (x:Tmp→Value)(d:Option Tmp)(v:Value):Tmp→Value:=match d with|some d=>upd x d v|none=>x
def qa3 (ops:List Oper)(D:Nat→Bool):Prop:= ∀j oj,ops[j]? =some oj→D j=true→ ∀e∈oj.after,Region.binds .any e=true→D e.on=true
theorem qhB (a0:Act)(x:Tmp→Value){ops:List Oper}(q:(ops.filterMap (·.dst)).Nodup){i:Nat}{o:Oper}(r:ops[i]? =some o)(v:Value):
  (lay a0 x (ops.filterMap (·.dst))).put o.dst v=lay a0 (yS x o.dst v) (ops.filterMap (·.dst)):=by
 cases hd:o.dst with
 | none=>rfl
 | some d=>exact qa1 a0 x d v _ q (List.mem_filterMap.2 ⟨o,List.mem_of_getElem? r,hd⟩)
section
variable {P:Program} {ops:List Oper} {a0:Act} {Q:Exit→Act→World→Prop} {R:(Nat→Bool)→(Tmp→Value)→World→Prop}
theorem qcg (ak:(ops.filterMap (·.dst)).Nodup)(ae:Yq ops=true)
  (ac: ∀(i:Nat) (o:Oper),ops[i]? =some o→ ∀(D:Nat→Bool) (x:Tmp→Value) (W:World),R D x W→D i=false→(∀e∈o.after,Region.binds .any e=true→D e.on=true)→qa3 ops D→
   ∀K:Act→World→Prop,(∀v W',R (setD D i) (yS x o.dst v) W'→K ((lay a0 x (ops.filterMap (·.dst))).put o.dst v) W')→
   if Region.wanted o (yielded ops.toArray (lay a0 x (ops.filterMap (·.dst))).tmps)=true then Oper.wp P o (lay a0 x (ops.filterMap (·.dst))) W K Q else K ((lay a0 x (ops.filterMap (·.dst))).put o.dst undef) W)
  (Y: ∀(D:Nat→Bool) (x:Tmp→Value) (W:World),R D x W→(∀i,D i=true)→Q .normal (lay a0 x (ops.filterMap (·.dst))) W):
  ∀(fuel:Nat) (q:Array Bool) (x:Tmp→Value) (W:World),q.size=ops.length→ZT q.toList≤fuel→R (fun j=>q.getD j true) x W→qa3 ops (fun j=>q.getD j true)→
   wpAny P .any ops.toArray Q fuel q (lay a0 x (ops.filterMap (·.dst))) W:=by
 intro fuel;induction fuel with
 | zero=>
  intro q x W hs ht hR hC;have aa: ∀i,q.getD i true=true:=fun i=>by
   have:=JZ (l:=q.toList) (by omega) i
   simpa [Lh,Lg] using this
  refine⟨?_,Y _ x W hR aa⟩;rw[List.eq_nil_iff_forall_not_mem];intro j hj;have:=(mem_ready.1 hj).1
  rw[aa j]at this
  cases this
 | succ fuel ih=>
  intro q x W hs ht hR hC;refine⟨fun hr=>Y _ x W hR ?_,fun i hi=>?_⟩
  ·intro j;show q.getD j true=true
   induction j using Nat.strongRecOn with
   | _ j ihj=>
    cases hl:q.getD j true with
    | true=>rfl
    | false=>
     have hj:j<q.size:=by
      rw[Lh]at hl
      cases e:q[j]? with
      | none=>rw[e]at hl;cases hl
      | some b=>exact(Ai e).1
     obtain⟨U,X⟩: ∃U,ops[j]? =some U:=⟨ops[j]'(by omega),by simp[show j<ops.length by omega]⟩;have hm:j∈Region.ready .any ops.toArray q:=mem_ready.2 ⟨hl,U,by simpa using X,fun e O J=>by
      have al:=(QE ae X).1 e O J;have h2:=ihj e.on al;have ah:e.on<q.size:=by omega
      simp only[Lh,Array.getElem?_eq_getElem ah,Option.getD_some]at h2⊢;exact h2⟩
     rw[hr]at hm;cases hm
  ·obtain⟨Z,o,X,ag⟩:=mem_ready.1 hi;have G:ops[i]? =some o:=by simpa using X
   have ab:i<q.size:=by
    have:=(List.getElem?_eq_some_iff.1 G).1
    omega
   have ai:q.toList[i]? =some false:=by
    rw[Lh,Array.getElem?_eq_getElem ab,Option.getD_some]at Z;rw[Array.getElem?_toList,Array.getElem?_eq_getElem ab,Z]
   have ad:ZT (q.setIfInBounds i true).toList≤fuel:=by
    have:=Jy q.toList i ai
    rw[Array.toList_setIfInBounds];omega
   have I: ∀e∈o.after,Region.binds .any e=true→q.getD e.on true=true:=fun e O J=>by
    have h6:=ag e O J;rw[Lh]at h6⊢
    cases e':q[e.on]? with
    | none=>rfl
    | some b=>rw[e']at h6;exact h6
   have V:(fun j=>(q.setIfInBounds i true).getD j true)=setD (fun j=>q.getD j true) i:=by
    funext j
    simp only[setD,Lh,Array.getElem?_setIfInBounds];by_cases e:i=j
    ·subst e;simp[ab]
    ·simp[e,Ne.symm e]
   refine wpOp_step X fun K hK=>ac i o G _ x W hR Z I hC K fun v W' aj=>?_
   rw[qhB a0 x ak G v];refine hK _ _ ?_;refine ih _ (yS x o.dst v) W' (by simpa using hs) ad (by rw[V];exact aj) ?_;intro j U af r e O J;rw[V]at r⊢;simp only[setD,Bool.or_eq_true,beq_iff_eq]at r⊢;rcases r with r|rfl
   ·exact .inl (hC j U af r e O J)
   ·obtain rfl:o=U:=Option.some.inj (G.symm.trans af);exact .inl (I e O J)
end
inductive GS where
 | own (q:Value→World→Prop)
 | far (ds:List Tmp) (q:List Value→World→Prop)
def Q9 (l:List Oper)(gs:List GS)(x:Tmp→Value)(W:World)(j:Nat):Prop:=match gs[j]?,l[j]? with
 | some (.own q),some o=>q (qJ x o) W
 | some (.far ds q),some _=>q (ds.map x) W
 | _,_=>True
def GS.stay:GS→World→World→Prop
 | .own q,W,W'=> ∀v,q v W→q v W'
 | .far _ q,W,W'=> ∀v,q v W→q v W'
def qeA:List GS→Prop
 | []=>True
 | g::gs=>(∀W W',Below W.heap.size W W'→g.stay W W')∧qeA gs
theorem qbb: ∀{gs:List GS},qeA gs→ ∀{j:Nat} {g:GS},gs[j]? =some g→ ∀W W',Below W.heap.size W W'→g.stay W W'
 | [],_,j,g,h,_,_,_=>by simp at h
 | _::_,hs,0,g,h,W,W',hb=>by simp at h;subst h;exact hs.1 W W' hb
 | _::gs,hs,j+1,g,h,W,W',hb=>qbb (gs:=gs) hs.2 (by simpa using h) W W' hb
def qdu (W W':World)(s:Nat):Nat→List GS→Prop
 | _,[]=>True
 | n,g::gs=>(n=s∨g.stay W W')∧qdu W W' s (n+1) gs
theorem qbc {W W':World}{s:Nat}: ∀{gs:List GS} {n:Nat},qdu W W' s n gs→ ∀{j:Nat} {g:GS},gs[j]? =some g→n+j≠s→g.stay W W'
 | [],_,_,j,g,h,_=>by simp at h
 | _::_,n,hs,0,g,h,hne=>by
  simp at h;subst h
  rcases hs.1 with o|o
  ·exact absurd o (by simpa using hne)
  ·exact o
 | _::gs,n,hs,j+1,g,h,hne=>qbc (gs:=gs) hs.2 (by simpa using h) (by omega)
def J2 (l:List Oper)(gs:List GS):Bool:=(List.range l.length).all fun j=>match l[j]?,gs[j]? with
 | some oj,some (.far ds _)=>ds.all fun d=>oj.after.any fun e=>Region.binds .any e&&(match l[e.on]? with|some oe=>oe.dst==some d|none=>false)
 | _,_=>true
theorem zL {l:List Oper}{gs:List GS}(h:J2 l gs=true){j:Nat}{J:Oper}{ds:List Tmp}{q:List Value→World→Prop}(I:l[j]? =some J)(O:gs[j]? =some (.far ds q)){d:Tmp}(V:d∈ds):
  ∃e∈J.after,Region.binds .any e=true∧ ∃r,l[e.on]? =some r∧r.dst=some d:=by
 have D:j<l.length:=(List.getElem?_eq_some_iff.1 I).1;have G:=List.all_eq_true.1 h j (List.mem_range.2 D);rw[I,O]at G;obtain⟨e,U,o⟩:=Array.any_eq_true'.1 (List.all_eq_true.1 G d V);rw[Bool.and_eq_true]at o;refine⟨e,U,o.1,?_⟩
 cases ho:l[e.on]? with
 | none=>rw[ho]at o;simp at o
 | some r=>rw[ho]at o;exact⟨r,rfl,by simpa using o.2⟩
def qcb (gs:List GS)(s i:Nat)(o:Oper):Bool:=(match gs[i]? with|some (.far _ _)=>false|_=>true)&&i != s&&o.dst.isSome
def qca (gs:List GS)(i:Nat)(v:Value)(W:World):Prop:=match gs[i]? with|some (.own q)=>q v W|_=>True
def atG (gs:List GS)(i:Nat)(x:Tmp→Value)(v:Value)(W:World):Prop:=match gs[i]? with|some (.far ds q)=>q (ds.map x) W|some (.own q)=>q v W|none=>True
def StepG (P:Program)(l:List Oper)(ds:List Tmp)(a0:Act)(Rb:Bool→World→Prop)(s:Nat)(gs:List GS)(Q:Exit→Act→World→Prop)(i:Nat)(o:Oper):Prop:=
 ∀(A:Act) (x:Tmp→Value) (W:World) (f:Bool),Zm a0 x ds A→Rb f W→(Jh l s i=true→f=false)→(∀e∈o.after,Region.binds .any e=true→Q9 l gs x W e.on)→
  ∀K:Act→World→Prop,(∀v W',Below W.heap.size W W'→qca gs i v W'→K (A.put o.dst v) W')→Oper.wp P o A W K Q
def qh4 (P:Program)(l:List Oper)(ds:List Tmp)(a0:Act)(Rb:Bool→World→Prop)(s:Nat)(gs:List GS)(Q:Exit→Act→World→Prop)(o:Oper):Prop:=
 ∀(A:Act) (x:Tmp→Value) (W:World),Zm a0 x ds A→Rb false W→(∀e∈o.after,Region.binds .any e=true→Q9 l gs x W e.on)→
  ∀K:Act→World→Prop,(∀v W',(o.dst=none→v=undef)→Rb true W'→qdu W W' s 0 gs→atG gs s x v W'→K (A.put o.dst v) W')→Oper.wp P o A W K Q
theorem qbe {l:List Oper}(r:Yq l=true){i j:Nat}{o q:Oper}(G:l[i]? =some o)(I:l[j]? =some q)(D:j≠i)(x:Tmp→Value)(v:Value):qJ (yS x o.dst v) q=qJ x q:=by
 unfold qJ yS
 cases hd:o.dst with
 | none=>rfl
 | some d=>
  cases hd':q.dst with
  | none=>rfl
  | some d'=>
   have:d'≠d:=fun e=>D ((QE r G).2 j q d I hd (by rw[hd',e]))
   simp[upd,this]
theorem qa5 {P:Program}{id:Nat}{w:World}{Q:Exit→Act→World→Prop}{a0:Act}{L l tail:List Oper}{n:Nat}(I:L.take n=l)(ht:L.drop n=tail)(ar:ZU .any l tail=true)(Rb:Bool→World→Prop)(s:Nat)(ds:List Tmp)(gs:List GS)(an:l.filterMap (·.dst)=ds)(au:(ds.all fun d=>decide (d<a0.tmps.size))=true)(ao:ds.Nodup)(G:Yq l=true)
  (hg:(l.all fun o=>o.guard.isNone)=true) (ai:J2 l gs=true) (hs:s<l.length) (hm:P.follows .mixedOrders=true) (hw:Rb false w.drew) (aw: ∀f W W',Rb f W→Below W.heap.size W W'→Rb f W') (az:qeA gs)
  (ah:yu (fun i o=>(qcb gs s i o=true∧StepG P l ds a0 Rb s gs (qW P l tail Q) i o)∨(i=s∧qh4 P l ds a0 Rb s gs (qW P l tail Q) o)) 0 l)
  (am: ∀(x:Tmp→Value) (W:World),Rb true W→yu (fun i _=>Q9 l gs x W i) 0 l→qW P l tail Q .normal (lay a0 x ds) W):
  (Code.region id L.toArray true).wp P Q a0 w:=by
 have hL:L=l++tail:=by rw[←I,←ht];exact(List.take_append_drop _ _).symm
 clear I ht;subst hL;subst an;have ak:=fun o ho=>List.all_eq_true.1 hg o ho
 have al:=hs;refine wp_region_any hm ?_;have eL:(l++tail).toArray.size=l.length+tail.length:=by simp
 rw[eL];refine zt tail l ar ?_;have H:=qcg (P:=P) (ops:=l) (a0:=a0) (Q:=qW P l tail Q) (R:=fun D x W=>Rb (D s) W∧ ∀i,D i=true→Q9 l gs x W i) ao G (fun i o I D x W hR ac af hC K hK=>by
   have ho:=ak o (List.mem_of_getElem? I);rw[Option.isNone_iff_eq_none]at ho;rw[if_pos (by simp[Region.wanted,ho])];have hL:Zm a0 x (l.filterMap (·.dst)) (lay a0 x (l.filterMap (·.dst))):=JJ (fun d hd=>of_decide_eq_true (List.all_eq_true.1 au d hd));have Y: ∀(j:Nat) (v:Value) (W':World),j≠i→D j=true→(∀g,gs[j]? =some g→g.stay W W')→Q9 l gs (yS x o.dst v) W' j:=fun j v W' r Z X=>by
    have V:=hR.2 j Z;unfold Q9 at V⊢
    cases hgj:gs[j]? with
    | none=>trivial
    | some g=>
     cases aa:l[j]? with
     | none=>cases g<;>trivial
     | some oj=>
      rw[hgj,aa]at V
      cases g with
      | own q=>
       show q (qJ (yS x o.dst v) oj) W'
       rw[qbe G I aa r];exact X _ hgj _ V
      | far dl q=>
       show q (dl.map (yS x o.dst v)) W'
       have e:dl.map (yS x o.dst v)=dl.map x:=by
        refine List.map_congr_left fun d hd=>?_
        unfold yS
        cases hdo:o.dst with
        | none=>rfl
        | some d'=>
         have:d≠d':=by
          rintro rfl
          obtain⟨e,he,J,oe,ab,ag⟩:=zL ai aa hgj hd;have h1:=(QE G I).2 e.on oe d ab hdo ag;have h2:=hC j oj aa Z e he J;rw[h1,ac]at h2
          cases h2
         simp[upd,this]
       rw[e];exact X _ hgj _ V
   rcases Yp ah i o I with⟨O,hG⟩|⟨rfl,hS⟩
   ·unfold qcb at O;simp only[Bool.and_eq_true,bne_iff_ne]at O;refine hG _ x W (D s) hL hR.1 (fun av=>?_) (fun e he J=>hR.2 _ (af e he J)) K (fun v W' aj U=>hK v W' ⟨?_,fun j hj=>?_⟩)
    ·obtain⟨o',aq,e,he,J,ax⟩:=qar av
     cases hDs:D s with
     | false=>rfl
     | true=>
      have:=hC s o' aq hDs e he J
      rw[ax,ac]at this;cases this
    ·have e:setD D i s=D s:=by
      have:(s==i)=false:=by rw[beq_eq_false_iff_ne];exact Ne.symm O.1.2
      simp[setD,this]
     rw[e];exact aw _ _ _ hR.1 aj
    ·by_cases r:j=i
     ·subst r;unfold Q9;unfold qca at U
      cases hgj:gs[j]? with
      | none=>trivial
      | some g=>
       rw[hgj]at U O;rw[I]
       cases g with
       | own q=>
        obtain⟨d,hd⟩:=Option.isSome_iff_exists.1 O.2;have:qJ (yS x o.dst v) o=v:=by unfold qJ yS;rw[hd];simp[upd]
        show q (qJ (yS x o.dst v) o) W'
        rw[this];exact U
       | far dl q=>simp at O
     ·have Z:D j=true:=by
       have J:(j==i)=false:=by rw[beq_eq_false_iff_ne];exact r
       simpa [setD,J] using hj
      exact Y j v W' r Z fun g ae=>qbb az ae W W' aj
   ·refine hS _ x W hL (ac▸hR.1) (fun e he J=>hR.2 _ (af e he J)) K (fun v W' hv ay X U=>?_);refine hK v W' ⟨?_,fun j hj=>?_⟩
    ·have:setD D i i=true:=by simp[setD]
     rw[this];exact ay
    ·by_cases r:j=i
     ·subst r;unfold Q9;unfold atG at U
      cases hgj:gs[j]? with
      | none=>trivial
      | some g=>
       rw[hgj]at U;rw[I]
       cases g with
       | own q=>
        show q (qJ (yS x o.dst v) o) W'
        have:qJ (yS x o.dst v) o=v:=by
         unfold qJ yS
         cases hd:o.dst with
         | none=>exact(hv hd).symm
         | some d=>simp[upd]
        rw[this];exact U
       | far dl q=>
        show q (dl.map (yS x o.dst v)) W'
        have e:dl.map (yS x o.dst v)=dl.map x:=by
         refine List.map_congr_left fun d hd=>?_
         unfold yS
         cases hdo:o.dst with
         | none=>rfl
         | some d'=>
          have:d≠d':=by
           rintro rfl
           obtain⟨e,he,J,oe,ab,ag⟩:=zL ai I hgj hd;have h1:=(QE G I).2 e.on oe d ab hdo ag;have h2:=(QE G I).1 e he J;omega
          simp[upd,this]
        rw[e];exact U
     ·have Z:D j=true:=by
       have J:(j==i)=false:=by rw[beq_eq_false_iff_ne];exact r
       simpa [setD,J] using hj
      exact Y j v W' r Z fun g ae=>qbc X ae (by simpa using r))
  (fun D x W hR hD=>am x W (hD s▸hR.1) (by
   have: ∀(m:List Oper) (n:Nat),yu (fun i _=>Q9 l gs x W i) n m:=by
    intro m;induction m with
    | nil=>intro n;trivial
    | cons o m ih=>intro n;exact⟨hR.2 n (hD n),ih (n+1)⟩
   exact this l 0))
  l.length (Array.replicate l.length false) (fun d=>a0.tmps.getD d undef) w.drew (by simp) (by
   simp only[Array.toList_replicate,ZT,List.countP_replicate];simp) ⟨by
    have:(Array.replicate l.length false).getD s true=false:=by simp[Lh,al]
    show Rb ((Array.replicate l.length false).getD s true) w.drew
    rw[this];exact hw,fun i I=>by
    have aA: ¬i<l.length:=fun ad=>by simp[Lh,ad]at I
    unfold Q9;rw[List.getElem?_eq_none (l:=l) (by omega)]
    cases gs[i]? with
    | none=>trivial
    | some g=>cases g<;>trivial⟩ (fun j oj ap aa=>by
    have ad:j<l.length:=(List.getElem?_eq_some_iff.1 ap).1;simp[Lh,ad]at aa)
 rw[jG]at H;exact H
theorem gw {a0 A:Act}{x:Tmp→Value}{ds:List Tmp}{gs:List GS}{l:List Oper}{W:World}{o:Array Edge}{v:Value}(D:Zm a0 x ds A)
    (q: ∀e∈o,Region.binds .any e=true→Q9 l gs x W e.on) (i s:Nat)
    (G:s∈ds:=by decide) (r:(⟨i,.data⟩:Edge)∈o:=by simp) (I:Q9 l gs x W i=(x s=v):=by rfl):A.tmps.getD s undef=v:=by
  have:=q _ r rfl
  rw[I]at this;exact(D.1 s G).trans this
inductive Sp where
 | v (d:Tmp) (u:Value)
 | p (d:Tmp) (q:Value→World→Prop)
 | s (q:World→Prop)
 | f (d:Option Tmp) (ds:List Tmp) (q:List Value→World→Prop)
def Sp.dst:Sp→Option Tmp
 | .v d _=>some d
 | .p d _=>some d
 | .s _=>none
 | .f d _ _=>d
def Sp.says:Sp→Value→World→Prop
 | .v _ u=>fun y _=>y=u
 | .p _ q=>q
 | .s q=>fun _ W=>q W
 | .f _ _ _=>fun _ _=>True
def Sp.gs:Sp→GS
 | .v _ u=> .own fun y _=>y=u
 | .p _ q=> .own q
 | .s q=> .far [] fun _ W=>q W
 | .f _ ds q=> .far ds q
def Q8:List Sp→Act→World→Nat→Prop
 | .v d u::_,A,_,0=>A.tmps.getD d undef=u
 | .p d q::_,A,W,0=>q (A.tmps.getD d undef) W
 | _::l,A,W,n+1=>Q8 l A W n
 | _,_,_,_=>True
def QW (sp:List Sp)(A:Act)(W:World):List Edge→Prop
 | []=>True
 | ⟨i,.data⟩::l=>Q8 sp A W i∧QW sp A W l
 | _::l=>QW sp A W l
def QF (a0:Act)(x:Tmp→Value):List Sp→Act
 | []=>a0
 | .v d u::l=>(QF a0 x l).put (some d) u
 | .p d _::l=>(QF a0 x l).put (some d) (x d)
 | .s _::l=>QF a0 x l
 | .f (some d) _ _::l=>(QF a0 x l).put (some d) (x d)
 | .f none _ _::l=>QF a0 x l
def qaX (x:Tmp→Value)(W:World):List Sp→Prop
 | []=>True
 | .v _ _::l=>qaX x W l
 | .p d q::l=>q (x d) W∧qaX x W l
 | .s q::l=>q W∧qaX x W l
 | .f _ ds q::l=>q (ds.map x) W∧qaX x W l
def qez:List Sp→Prop
 | []=>True
 | .p _ q::l=>(∀v W W',q v W→Below W.heap.size W W'→q v W')∧qez l
 | .s q::l=>(∀W W',q W→Below W.heap.size W W'→q W')∧qez l
 | _::l=>qez l
def qaJ:List Sp→Prop
 | []=>True
 | .p _ q::l=>(∀W W',Below W.heap.size W W'→ ∀v,q v W→q v W')∧qaJ l
 | .s q::l=>(∀W W',Below W.heap.size W W'→q W→q W')∧qaJ l
 | .f _ _ q::l=>(∀W W',Below W.heap.size W W'→ ∀v,q v W→q v W')∧qaJ l
 | _::l=>qaJ l
theorem ZV: ∀{sp:List Sp},qez sp→qf1 (sp.map Sp.says)
 | [],_=>trivial
 | .v _ _::_,h=>⟨fun _ _ _ h _=>h,ZV h⟩
 | .p _ _::_,h=>⟨h.1,ZV h.2⟩
 | .s _::_,h=>⟨fun _ W W'=>h.1 W W',ZV h.2⟩
 | .f _ _ _::_,h=>⟨fun _ _ _ h _=>h,ZV h⟩
theorem Zd: ∀{sp:List Sp},qaJ sp→qeA (sp.map Sp.gs)
 | [],_=>trivial
 | .v _ _::_,h=>⟨fun _ _ _ _ h=>h,Zd h⟩
 | .p _ _::_,h=>⟨h.1,Zd h.2⟩
 | .s _::_,h=>⟨fun W W' o _=>h.1 W W' o,Zd h.2⟩
 | .f _ _ _::_,h=>⟨h.1,Zd h.2⟩
theorem qaj {sp:List Sp}{i:Nat}{s:Sp}(h:sp[i]? =some s)(v:Value)(W:World):QN (sp.map Sp.says) i v W=s.says v W:=by
 unfold QN;rw[List.getElem?_map,h];rfl
theorem qai {sp:List Sp}{r:List Oper}{x:Tmp→Value}{i:Nat}{s:Sp}{o:Oper}(h:sp[i]? =some s)(D:r[i]? =some o)(W:World):
  Q9 r (sp.map Sp.gs) x W i=match s.gs with| .own q=>q (qJ x o) W| .far ds q=>q (ds.map x) W:=by
 unfold Q9;rw[List.getElem?_map,h,D]
 cases s<;>rfl
theorem qak {sp:List Sp}{q:List Oper}(r:q.map (·.dst)=sp.map Sp.dst){i:Nat}{o:Oper}(D:q[i]? =some o): ∃s,sp[i]? =some s∧s.dst=o.dst:=by
 have h:=congrArg (fun l:List (Option Tmp)=>l[i]?) r;simp only[List.getElem?_map,D,Option.map_some]at h
 cases hs:sp[i]? with
 | none=>rw[hs]at h;cases h
 | some s=>rw[hs]at h;exact⟨s,rfl,by simpa using h.symm⟩
theorem jE: ∀{sp:List Sp} {A:Act} {W:World} {i:Nat},(∀d u,sp[i]? =some (.v d u)→A.tmps.getD d undef=u)→(∀d q,sp[i]? =some (.p d q)→q (A.tmps.getD d undef) W)→Q8 sp A W i
 | [],_,_,0,_,_=>trivial
 | [],_,_,_+1,_,_=>trivial
 | .v _ _::_,_,_,0,h,_=>h _ _ rfl
 | .p _ _::_,_,_,0,_,h=>h _ _ rfl
 | .s _::_,_,_,0,_,_=>trivial
 | .f _ _ _::_,_,_,0,_,_=>trivial
 | .v _ _::l,A,W,i+1,h,k=>jE (sp:=l) (A:=A) (W:=W) (i:=i) (fun d u e=>h d u (by simpa using e)) (fun d q e=>k d q (by simpa using e))
 | .p _ _::l,A,W,i+1,h,k=>jE (sp:=l) (A:=A) (W:=W) (i:=i) (fun d u e=>h d u (by simpa using e)) (fun d q e=>k d q (by simpa using e))
 | .s _::l,A,W,i+1,h,k=>jE (sp:=l) (A:=A) (W:=W) (i:=i) (fun d u e=>h d u (by simpa using e)) (fun d q e=>k d q (by simpa using e))
 | .f _ _ _::l,A,W,i+1,h,k=>jE (sp:=l) (A:=A) (W:=W) (i:=i) (fun d u e=>h d u (by simpa using e)) (fun d q e=>k d q (by simpa using e))
theorem zU {sp:List Sp}{A:Act}{W:World}: ∀(l:List Edge),(∀e∈l,Region.binds .any e=true→Q8 sp A W e.on)→QW sp A W l
 | [],_=>trivial
 | ⟨_,.data⟩::l,h=>⟨h _ (List.mem_cons_self ..) rfl,zU l (fun e o=>h e (List.mem_cons_of_mem _ o))⟩
 | ⟨_,.chain⟩::l,h=>zU l (fun e o=>h e (List.mem_cons_of_mem _ o))
 | ⟨_,.guard⟩::l,h=>zU l (fun e o=>h e (List.mem_cons_of_mem _ o))
 | ⟨_,.phase⟩::l,h=>zU l (fun e o=>h e (List.mem_cons_of_mem _ o))
 | ⟨_,.textOnly _⟩::l,h=>zU l (fun e o=>h e (List.mem_cons_of_mem _ o))
 | ⟨_,.gcOnly _⟩::l,h=>zU l (fun e o=>h e (List.mem_cons_of_mem _ o))
theorem JH {q:List Oper}{i:Nat}{o:Oper}{d:Tmp}(h:q[i]? =some o)(r:o.dst=some d):d∈q.filterMap (·.dst):=List.mem_filterMap.2 ⟨o,List.mem_of_getElem? h,r⟩
theorem qfl (a0:Act){x:Tmp→Value}: ∀{sp:List Sp} {r:List Oper},r.map (·.dst)=sp.map Sp.dst→(∀(i:Nat) (d:Tmp) (u:Value),sp[i]? =some (.v d u)→x d=u)→lay a0 x (r.filterMap (·.dst))=QF a0 x sp
 | [],[],_,_=>rfl
 | [],_::_,h,_=>by simp at h
 | _::_,[],h,_=>by simp at h
 | s::sp,o::r,h,hv=>by
  simp only[List.map_cons,List.cons.injEq]at h;have G:=qfl a0 (x:=x) h.2 (fun i d u e=>hv (i+1) d u (by simpa using e))
  cases s with
  | v d u=>
   have D:o.dst=some d:=h.1;rw[List.filterMap_cons,D];show(lay a0 x (r.filterMap _)).put (some d) (x d)=(QF a0 x sp).put (some d) u
   rw[G,hv 0 d u rfl]
  | p d q=>
   have D:o.dst=some d:=h.1;rw[List.filterMap_cons,D];show(lay a0 x (r.filterMap _)).put (some d) (x d)=(QF a0 x sp).put (some d) (x d)
   rw[G]
  | s q=>
   have D:o.dst=none:=h.1;rw[List.filterMap_cons,D];exact G
  | f d ds q=>
   cases d with
   | none=>
    have D:o.dst=none:=h.1;rw[List.filterMap_cons,D];exact G
   | some d=>
    have D:o.dst=some d:=h.1;rw[List.filterMap_cons,D];show(lay a0 x (r.filterMap _)).put (some d) (x d)=(QF a0 x sp).put (some d) (x d)
    rw[G]
theorem jM {x:Tmp→Value}{W:World}: ∀{sp:List Sp},(∀(i:Nat) (s:Sp),sp[i]? =some s→match s with| .v _ _=>True| .p d q=>q (x d) W| .s q=>q W| .f _ ds q=>q (ds.map x) W)→qaX x W sp
 | [],_=>trivial
 | .v _ _::l,h=>jM (sp:=l) (fun i s e=>h (i+1) s (by simpa using e))
 | .p _ _::l,h=>⟨h 0 _ rfl,jM (sp:=l) (fun i s e=>h (i+1) s (by simpa using e))⟩
 | .s _::l,h=>⟨h 0 _ rfl,jM (sp:=l) (fun i s e=>h (i+1) s (by simpa using e))⟩
 | .f _ _ _::l,h=>⟨h 0 _ rfl,jM (sp:=l) (fun i s e=>h (i+1) s (by simpa using e))⟩
theorem Yh: ∀{q:List Oper} {sp:List Sp},q.map (·.dst)=sp.map Sp.dst→q.filterMap (·.dst)=sp.filterMap Sp.dst
 | [],[],_=>rfl
 | [],_::_,h=>by simp at h
 | _::_,[],h=>by simp at h
 | o::q,s::sp,h=>by
  simp only[List.map_cons,List.cons.injEq]at h;have r:=Yh h.2;rw[List.filterMap_cons,List.filterMap_cons,h.1,r]
theorem depL {sp:List Sp}{r:List Oper}{a0 A:Act}{x:Tmp→Value}{ds:List Tmp}{W:World}{o:Array Edge}(aa:r.filterMap (·.dst)=ds)(hl:r.map (·.dst)=sp.map Sp.dst)(ab: ∀e∈o,e.on<r.length)(Z:Zm a0 x ds A)
  (V: ∀e∈o,Region.binds .any e=true→ ∀D,r[e.on]? =some D→QN (sp.map Sp.says) e.on (qJ x D) W):QW sp A W o.toList:=by
 subst aa;refine zU _ fun e O hb=>?_
 have O:e∈o:=Array.mem_toList_iff.1 O;obtain⟨D,G⟩: ∃D,r[e.on]? =some D:=⟨_,List.getElem?_eq_getElem (ab e O)⟩;obtain⟨s,Y,U⟩:=qak hl G;have X:=V e O hb D G;rw[qaj Y]at X;refine jE (fun d u I=>?_) (fun d q I=>?_)
 ·rw[Y]at I;obtain rfl:=Option.some.inj I;have J:D.dst=some d:=U.symm;rw[Z.1 d (JH G J)];have:qJ x D=x d:=by unfold qJ;rw[J]
  rw[←this];exact X
 ·rw[Y]at I;obtain rfl:=Option.some.inj I;have J:D.dst=some d:=U.symm;rw[Z.1 d (JH G J)];have:qJ x D=x d:=by unfold qJ;rw[J]
  rw[←this];exact X
theorem endL {sp:List Sp}{r:List Oper}{a0:Act}{x:Tmp→Value}{W:World}(O:r.map (·.dst)=sp.map Sp.dst)(V:(sp.all fun s=>match s with| .f _ _ _=>false|_=>true)=true)
  (h:yu (fun i o=>QN (sp.map Sp.says) i (qJ x o) W) 0 r):qaX x W sp∧lay a0 x (r.filterMap (·.dst))=QF a0 x sp:=by
 have U: ∀(i:Nat) (s:Sp),sp[i]? =some s→ ∃o,r[i]? =some o∧o.dst=s.dst∧s.says (qJ x o) W:=fun i s D=>by
  have I:=congrArg (fun l:List (Option Tmp)=>l[i]?) O;simp only[List.getElem?_map,D,Option.map_some]at I
  cases ho:r[i]? with
  | none=>rw[ho]at I;cases I
  | some o=>
   rw[ho]at I;have G:=Yp h i o ho;rw[qaj D]at G;exact⟨o,rfl,by simpa using I,G⟩
 refine⟨jM fun i s D=>?_,qfl a0 O fun i d u D=>?_⟩
 ·obtain⟨o, -,J,G⟩:=U i s D
  cases s with
  | v d u=>trivial
  | p d q=>
   have:qJ x o=x d:=by unfold qJ;rw[J];rfl
   show q (x d) W
   rw[←this];exact G
  | s q=>exact G
  | f d ds q=>exact absurd (List.all_eq_true.1 V _ (List.mem_of_getElem? D)) (by simp)
 ·obtain⟨o, -,J,G⟩:=U i _ D;have:qJ x o=x d:=by unfold qJ;rw[J];rfl
  rw[←this];exact G
def qan (l:List Oper):Bool:=l.all fun o=>o.after.all fun e=>decide (e.on<l.length)
theorem za {l:List Oper}(h:qan l=true){i:Nat}{o:Oper}(q:l[i]? =some o): ∀e∈o.after,e.on<l.length:=fun e r=>
 of_decide_eq_true (Array.all_eq_true'.1 (List.all_eq_true.1 h o (List.mem_of_getElem? q)) e r)
def StepC (P:Program)(init:List Oper)(ds:List Tmp)(a0:Act)(B:Nat)(w0:World)(sp:List Sp)(Q:Exit→Act→World→Prop)(i:Nat)(o:Oper):Prop:=
 ∀(A:Act) (x:Tmp→Value) (W:World),Zm a0 x ds A→Below B w0 W→B≤W.heap.size→(∀e∈o.after,Region.binds .any e=true→ ∀oe,init[e.on]? =some oe→QN (sp.map Sp.says) e.on (qJ x oe) W)→QW sp A W o.after.toList→
  ∀K:Act→World→Prop,(∀v W',Below W.heap.size W W'→QN (sp.map Sp.says) i v W'→K (A.put o.dst v) W')→Oper.wp P o A W K Q
theorem Zj {p q:Nat→Oper→Prop}(l:List Oper): ∀(n:Nat) (m:List Oper),(∀i o,m[i]? =some o→p (n+i) o→q (n+i) o)→yu p n m→yu q n m
 | _,[],_,_=>trivial
 | n,o::m,h,k=>⟨h 0 o rfl k.1,Zj l (n+1) m (fun i D G r=>by
   rw[show n+1+i=n+(i+1) by omega]at r⊢;exact h (i+1) D (by simpa using G) r) k.2⟩
theorem qE {P:Program}{id:Nat}{w w0:World}{Q:Exit→Act→World→Prop}{a0:Act}{B:Nat}{l q tail:List Oper}{n:Nat}{ds:List Tmp}(sp:List Sp)(aa:qez sp)(hw:Below B w0 w.drew)(hB:B≤w0.heap.size)
  (I:yu (StepC P q ds a0 B w0 sp (qW P q tail Q)) 0 q)
  (U: ∀(x:Tmp→Value) (W:World),Below B w0 W→B≤W.heap.size→qaX x W sp→qW P q tail Q .normal (QF a0 x sp) W)
  (hi:l.take n=q:=by dsimp only[List.take]) (ht:l.drop n=tail:=by dsimp only[List.drop]) (ab:sp.filterMap Sp.dst=ds:=by dsimp only[List.filterMap,Sp.dst]) (O:q.map (·.dst)=sp.map Sp.dst:=by rfl)
  (ad:(ds.all fun d=>decide (d<a0.tmps.size))=true:=by rfl) (ac:ds.Nodup:=by decide) (J:Yq q=true:=by kernel_rfl)
  (hg:(q.all fun o=>o.guard.isNone&&o.dst.isSome)=true:=by rfl) (hb:ZU .any q tail=true:=by kernel_rfl) (Z:qan q=true:=by kernel_rfl) (hm:P.follows .mixedOrders=true:=by kernel_rfl)
  (ae:(sp.all fun s=>match s with| .f _ _ _=>false|_=>true)=true:=by rfl):
  (Code.region id l.toArray true).wp P Q a0 w:=by
 have r:q.filterMap (·.dst)=ds:=(Yh O).trans ab;refine qaK (n:=n) (w0:=w0) (B:=B) ds (sp.map Sp.says) hi ht r ad ac J hg hb hm hw hB (ZV aa) ?_ ?_
 ·refine Zj q 0 q (fun i o ho h=>?_) I;rw[Nat.zero_add]at h⊢;exact fun A x W Y X G D K hK=>h A x W Y X G D (depL r O (za Z ho) Y D) K hK
 ·intro x W X G V;obtain⟨h1,h2⟩:=endL (a0:=a0) O ae V;rw[r]at h2;rw[h2];exact U x W X G h1
def qi2 (P:Program)(init:List Oper)(ds:List Tmp)(a0:Act)(R:World→Prop)(sp:List Sp)(Q:Exit→Act→World→Prop)(i:Nat)(o:Oper):Prop:=
 ∀(A:Act) (x:Tmp→Value) (W:World),Zm a0 x ds A→R W→(∀e∈o.after,Region.binds .any e=true→ ∀oe,init[e.on]? =some oe→QN (sp.map Sp.says) e.on (qJ x oe) W)→QW sp A W o.after.toList→
  ∀K:Act→World→Prop,(∀v W',R W'→(∀j u,j≠i→QN (sp.map Sp.says) j u W→QN (sp.map Sp.says) j u W')→QN (sp.map Sp.says) i v W'→K (A.put o.dst v) W')→Oper.wp P o A W K Q
theorem Js {P:Program}{id:Nat}{w:World}{Q:Exit→Act→World→Prop}{a0:Act}{l r tail:List Oper}{n:Nat}{ds:List Tmp}(R:World→Prop)(sp:List Sp)(hw:R w.drew)
  (O:yu (qi2 P r ds a0 R sp (qW P r tail Q)) 0 r)
  (Z: ∀(x:Tmp→Value) (W:World),R W→qaX x W sp→qW P r tail Q .normal (QF a0 x sp) W)
  (J:l.take n=r:=by dsimp only[List.take]) (ht:l.drop n=tail:=by dsimp only[List.drop]) (ac:sp.filterMap Sp.dst=ds:=by dsimp only[List.filterMap,Sp.dst]) (V:r.map (·.dst)=sp.map Sp.dst:=by rfl)
  (ae:(ds.all fun d=>decide (d<a0.tmps.size))=true:=by rfl) (ad:ds.Nodup:=by decide) (X:Yq r=true:=by kernel_rfl)
  (U:(r.all fun o=>o.guard.isNone)=true:=by rfl) (hb:ZU .any r tail=true:=by kernel_rfl) (ab:qan r=true:=by kernel_rfl) (hm:P.follows .mixedOrders=true:=by kernel_rfl)
  (af:(sp.all fun s=>match s with| .f _ _ _=>false|_=>true)=true:=by rfl):
  (Code.region id l.toArray true).wp P Q a0 w:=by
 have D:r.filterMap (·.dst)=ds:=(Yh V).trans ac;refine qbX (n:=n) R ds (sp.map Sp.says) J ht D ae ad X U hb hm hw ?_ ?_ ?_
 ·have: ∀(m:List Oper) (n:Nat),(∀i o,m[i]? =some o→r[n+i]? =some o)→yu (fun i o=>o.dst=none→ ∀v W,QN (sp.map Sp.says) i v W→QN (sp.map Sp.says) i undef W) n m:=by
   intro m;induction m with
   | nil=>intro n _;trivial
   | cons o m ih=>
    intro n h;refine⟨fun hd v W U=>?_,ih (n+1) (fun i o' J=>by rw[show n+1+i=n+(i+1) by omega];exact h (i+1) o' (by simpa using J))⟩;have h0:r[n]? =some o:=h 0 o rfl;obtain⟨s,hs,G⟩:=qak V h0;rw[qaj hs]at U⊢
    cases s with
    | v d u=>rw[hd]at G;cases G
    | p d q=>rw[hd]at G;cases G
    | s q=>exact U
    | f d ds q=>trivial
  exact this r 0 (fun i o J=>by rw[Nat.zero_add];exact J)
 ·refine Zj r 0 r (fun i o ho h=>?_) O;rw[Nat.zero_add]at h⊢;exact fun A x W hA Y I K hK=>h A x W hA Y I (depL D V (za ab ho) hA I) K hK
 ·intro x W Y aa;obtain⟨h1,h2⟩:=endL (a0:=a0) V af aa;rw[D]at h2;rw[h2];exact Z x W Y h1
theorem depG {sp:List Sp}{r:List Oper}{a0 A:Act}{x:Tmp→Value}{ds:List Tmp}{W:World}{o:Array Edge}(aa:r.filterMap (·.dst)=ds)(hl:r.map (·.dst)=sp.map Sp.dst)(ab: ∀e∈o,e.on<r.length)(Z:Zm a0 x ds A)
  (V: ∀e∈o,Region.binds .any e=true→Q9 r (sp.map Sp.gs) x W e.on):QW sp A W o.toList:=by
 subst aa;refine zU _ fun e O hb=>?_
 have O:e∈o:=Array.mem_toList_iff.1 O;obtain⟨G,D⟩: ∃G,r[e.on]? =some G:=⟨_,List.getElem?_eq_getElem (ab e O)⟩;obtain⟨s,Y,U⟩:=qak hl D;have X:=V e O hb;rw[qai Y D]at X;refine jE (fun d u I=>?_) (fun d q I=>?_)
 ·rw[Y]at I;obtain rfl:=Option.some.inj I;have J:G.dst=some d:=U.symm;rw[Z.1 d (JH D J)];have:qJ x G=x d:=by unfold qJ;rw[J]
  rw[←this];exact X
 ·rw[Y]at I;obtain rfl:=Option.some.inj I;have J:G.dst=some d:=U.symm;rw[Z.1 d (JH D J)];have:qJ x G=x d:=by unfold qJ;rw[J]
  rw[←this];exact X
theorem endG {sp:List Sp}{r:List Oper}{a0:Act}{x:Tmp→Value}{W:World}(O:r.map (·.dst)=sp.map Sp.dst)
  (h:yu (fun i _=>Q9 r (sp.map Sp.gs) x W i) 0 r):qaX x W sp∧lay a0 x (r.filterMap (·.dst))=QF a0 x sp:=by
 have U: ∀(i:Nat) (s:Sp),sp[i]? =some s→ ∃o,o.dst=s.dst∧(match s.gs with| .own q=>q (qJ x o) W| .far ds q=>q (ds.map x) W):=fun i s G=>by
  have I:=congrArg (fun l:List (Option Tmp)=>l[i]?) O;simp only[List.getElem?_map,G,Option.map_some]at I
  cases ho:r[i]? with
  | none=>rw[ho]at I;cases I
  | some o=>
   rw[ho]at I;have D:=Yp h i o ho;rw[qai G ho]at D;exact⟨o,by simpa using I,D⟩
 refine⟨jM fun i s G=>?_,qfl a0 O fun i d u G=>?_⟩
 ·obtain⟨o,J,D⟩:=U i s G
  cases s with
  | v d u=>trivial
  | p d q=>
   have:qJ x o=x d:=by unfold qJ;rw[J];rfl
   show q (x d) W
   rw[←this];exact D
  | s q=>exact D
  | f d ds q=>exact D
 ·obtain⟨o,J,D⟩:=U i _ G;have:qJ x o=x d:=by unfold qJ;rw[J];rfl
  rw[←this];exact D
def Sp.isOwn:Sp→Bool
 | .v _ _=>true
 | .p _ _=>true
 | _=>false
def qfe:List Sp→Nat→Nat→Bool
 | [],_,_=>true
 | x::l,n,s=>(n==s||x.isOwn)&&qfe l (n+1) s
theorem qdc: ∀{sp:List Sp} {n s:Nat},qfe sp n s=true→ ∀{j:Nat} {x:Sp},sp[j]? =some x→n+j≠s→x.isOwn=true
 | [],_,_,_,j,x,h,_=>by simp at h
 | y::_,n,s,h,0,x,hx,hne=>by
  simp only[qfe,Bool.and_eq_true,Bool.or_eq_true,beq_iff_eq]at h;simp at hx;subst hx
  exact h.1.resolve_left (by simpa using hne)
 | y::l,n,s,h,j+1,x,hx,hne=>by
  simp only[qfe,Bool.and_eq_true]at h;exact qdc (sp:=l) h.2 (by simpa using hx) (by omega)
def qh5 (P:Program)(l:List Oper)(ds:List Tmp)(a0:Act)(Rb:Bool→World→Prop)(s:Nat)(sp:List Sp)(i:Nat)(Q:Exit→Act→World→Prop)(o:Oper):Prop:=
 ∀(A:Act) (x:Tmp→Value) (W:World) (f:Bool),Zm a0 x ds A→Rb f W→(Jh l s i=true→f=false)→(∀e∈o.after,Region.binds .any e=true→Q9 l (sp.map Sp.gs) x W e.on)→QW sp A W o.after.toList→
  ∀K:Act→World→Prop,(∀v W',Below W.heap.size W W'→qca (sp.map Sp.gs) i v W'→K (A.put o.dst v) W')→Oper.wp P o A W K Q
theorem Yb {P:Program}{id:Nat}{w:World}{Q:Exit→Act→World→Prop}{a0:Act}{L l tail:List Oper}{n:Nat}{ds:List Tmp}{o:Oper}(G:Bool→World→Prop)(s:Nat)(sp:List Sp)(af:qaJ sp)(hw:G false w.drew)(ah: ∀f W W',G f W→Below W.heap.size W W'→G f W')
  (U:yu (fun i o=>i=s∨qh5 P l ds a0 G s sp i (qW P l tail Q) o) 0 l)
  (O:qh4 P l ds a0 G s (sp.map Sp.gs) (qW P l tail Q) o)
  (aa: ∀(x:Tmp→Value) (W:World),G true W→qaX x W sp→qW P l tail Q .normal (QF a0 x sp) W)
  (hi:L.take n=l:=by dsimp only[List.take]) (ht:L.drop n=tail:=by dsimp only[List.drop]) (aj:ZU .any l tail=true:=by kernel_rfl) (ag:sp.filterMap Sp.dst=ds:=by dsimp only[List.filterMap,Sp.dst]) (V:l.map (·.dst)=sp.map Sp.dst:=by rfl)
  (ak:(ds.all fun d=>decide (d<a0.tmps.size))=true:=by rfl) (ai:ds.Nodup:=by decide) (X:Yq l=true:=by kernel_rfl) (hg:(l.all fun o=>o.guard.isNone)=true:=by rfl) (ae:J2 l (sp.map Sp.gs)=true:=by kernel_rfl)
  (ho:l[s]? =some o:=by rfl) (ac:qfe sp 0 s=true:=by rfl) (ad:qan l=true:=by kernel_rfl) (hm:P.follows .mixedOrders=true:=by kernel_rfl):
  (Code.region id L.toArray true).wp P Q a0 w:=by
 have D:l.filterMap (·.dst)=ds:=(Yh V).trans ag;have hs:s<l.length:=(List.getElem?_eq_some_iff.1 ho).1;refine qa5 hi ht aj G s ds (sp.map Sp.gs) D ak ai X hg ae hs hm hw ah (Zd af) ?_ ?_
 ·refine Zj l 0 l (fun i o' I h=>?_) U;rw[Nat.zero_add]at h⊢;by_cases r:i=s
  ·subst r;rw[ho]at I;obtain rfl:=Option.some.inj I;exact .inr ⟨rfl,O⟩
  ·refine .inl ⟨?_,fun A x W f hA hR hf J K hK=>h.resolve_left r A x W f hA hR hf J (depG D V (za ad I) hA J) K hK⟩;obtain⟨x,hx,Y⟩:=qak V I;have Z:=qdc ac hx (by rw[Nat.zero_add];exact r);unfold qcb;rw[List.getElem?_map,hx]
   cases x with
   | v d u=>simp[Sp.gs,r,←Y,Sp.dst]
   | p d q=>simp[Sp.gs,r,←Y,Sp.dst]
   | s q=>cases Z
   | f d ds q=>cases Z
 ·intro x W hR ab;obtain⟨h1,h2⟩:=endG (a0:=a0) V ab;rw[D]at h2;rw[h2];exact aa x W hR h1
theorem yh {P:Program}{id:Nat}{w:World}{Q:Exit→Act→World→Prop}{a0:Act}{l:List Oper}{ds:List Tmp}{o:Oper}(q:Bool→World→Prop)(s:Nat)(sp:List Sp)(V:qaJ sp)(hw:q false w.drew)(Y: ∀f W W',q f W→Below W.heap.size W W'→q f W')
  (D:yu (fun i o=>i=s∨qh5 P l ds a0 q s sp i Q o) 0 l)
  (r:qh4 P l ds a0 q s (sp.map Sp.gs) Q o)
  (I: ∀(x:Tmp→Value) (W:World),q true W→qaX x W sp→Q .normal (QF a0 x sp) W)
  (X:sp.filterMap Sp.dst=ds:=by dsimp only[List.filterMap,Sp.dst]) (hl:l.map (·.dst)=sp.map Sp.dst:=by rfl)
  (aa:(ds.all fun d=>decide (d<a0.tmps.size))=true:=by rfl) (Z:ds.Nodup:=by decide) (G:Yq l=true:=by kernel_rfl) (hg:(l.all fun o=>o.guard.isNone)=true:=by rfl) (U:J2 l (sp.map Sp.gs)=true:=by kernel_rfl)
  (ho:l[s]? =some o:=by rfl) (J:qfe sp 0 s=true:=by rfl) (O:qan l=true:=by kernel_rfl) (hm:P.follows .mixedOrders=true:=by kernel_rfl):
  (Code.region id l.toArray true).wp P Q a0 w:=
 Yb (n:=l.length) (l:=l) (tail:=[]) q s sp V hw Y D r I (by simp) (by simp) rfl X hl aa Z G hg U ho J O hm
end Go.Proofs.YthjoojnlnlmljaaGreat
