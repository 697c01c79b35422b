/- A region that draws its order, in a world that grows only: each operation's slot says what it must, in whatever order; then a tail of operations of which each waits for all before it. No condition. -/
import Derived.Test.YthjoojnlnlmljaaGreatG13
import Derived.Test.YthjoojnlnlmljaaGreatG06
import Derived.Test.YthjoojnlnlmljaaGreatG02
import Derived.Below
import Derived.Laws.Tables
set_option linter.all false
set_option maxRecDepth 100000
set_option maxHeartbeats 8000000
namespace Go.Proofs.YthjoojnlnlmljaaGreat
open Go Go.RowKit
theorem zm {P:Program}{o:Oper}{a:Act}{w:World}{K:Act→World→Prop}{Q:Exit→Act→World→Prop}(t:TypeId)(q:Array (Nat×Operand))(G:o.op= .build t q)(cells:Array Value)
  (D:P.built t (q.map fun(i,x)=>(i,a.eval x)).toList=some cells) (h:K (a.put o.dst (.agg cells)) w):o.wp P a w K Q:=
 wp_build t q G (by rw[D];rfl) (by rw[D];exact h)
def yj (p:Nat→Oper→Prop):Nat→List Oper→Prop
 | _,[]=>True
 | n,o::l=>p n o∧yj p (n+1) l
theorem qx {p:Nat→Oper→Prop}{n:Nat}{o:Oper}{l:List Oper}(h:p n o)(q:yj p (n+1) l):yj p n (o::l):=⟨h,q⟩
theorem qz {p:Nat→Oper→Prop}{n:Nat}:yj p n []:=trivial
theorem qel {p:Nat→Oper→Prop}: ∀(l:List Oper) (n:Nat),yj p n l→ ∀i o,l[i]? =some o→p (n+i) o
 | [],_,_,i,o,hi=>by simp at hi
 | _::_,n,h,0,o,hi=>by simp at hi;subst hi;exact h.1
 | _::l,n,h,i+1,o,hi=>by
  have:=qel l (n+1) h.2 i o (by simpa using hi)
  rw[show n+(i+1)=n+1+i by omega];exact this
theorem Yi {p:Nat→Oper→Prop}{l:List Oper}(h:yj p 0 l): ∀i o,l[i]? =some o→p i o:=fun i o q=>by
 have:=qel l 0 h i o q
 rwa[Nat.zero_add]at this
def QK (gs:List (Value→World→Prop))(i:Nat)(v:Value)(W:World):Prop:=match gs[i]? with
 | some g=>g v W
 | none=>True
def qf6:List (Value→World→Prop)→Prop
 | []=>True
 | g::gs=>(∀v W W',g v W→Below W.heap.size W W'→g v W')∧qf6 gs
theorem qbw: ∀{gs:List (Value→World→Prop)},qf6 gs→ ∀{i:Nat} {v:Value} {W W':World},QK gs i v W→Below W.heap.size W W'→QK gs i v W'
 | [],_,i,v,W,W',_,_=>by unfold QK;simp
 | g::gs,h,0,v,W,W',hg,hb=>h.1 v W W' hg hb
 | g::gs,h,i+1,v,W,W',hg,hb=>by
  have:=qbw (gs:=gs) h.2 (i:=i) (v:=v) (W:=W) (W':=W') (by unfold QK at hg⊢;simpa using hg) hb
  unfold QK at this⊢;simpa using this
def ZD (md:Region.Mode):List Oper→List Oper→Bool
 | _,[]=>true
 | init,o::t=>J3 md init o init.length&&qcE md init&&ZD md (init++[o]) t
def qV (P:Program):List Oper→List Oper→(Exit→Act→World→Prop)→Exit→Act→World→Prop
 | _,[],Q=>Q
 | init,o::t,Q=>JO P (init++[o]).toArray o (qV P (init++[o]) t Q)
theorem qp {P:Program}{q t:List Oper}{o:Oper}{Q:Exit→Act→World→Prop}{a:Act}{w:World}(h:wpList P (q++[o]).toArray (qV P (q++[o]) t Q) [o] a w):qV P q (o::t) Q .normal a w:=h
theorem qv {P:Program}{o:List Oper}{Q:Exit→Act→World→Prop}{a:Act}{w:World}(h:Q .normal a w):qV P o [] Q .normal a w:=h
theorem za {P:Program}{md:Region.Mode}{Q:Exit→Act→World→Prop}{a:Act}{w:World}: ∀(tail q:List Oper),ZD md q tail=true→
  wpAny P md q.toArray (qV P q tail Q) q.length (Array.replicate q.length false) a w→wpAny P md (q++tail).toArray Q (q.length+tail.length) (Array.replicate (q.length+tail.length) false) a w
 | [],q,_,h=>by simpa [qV] using h
 | o::t,q,hb,h=>by
  simp only[ZD,Bool.and_eq_true]at hb;have U:=za (P:=P) (Q:=Q) (a:=a) (w:=w) t (q++[o]) hb.2 (by
   have D:(q++[o]).toArray=q.toArray.push o:=by simp
   have J:(q++[o]).length=q.length+1:=by simp
   have V:Array.replicate (q.length+1) false=(Array.replicate q.length false).push false:=by
    rw[Array.replicate_succ]
   rw[J,V,D];refine jU (by simpa using hb.1.1) (by simpa using hb.1.2) _ _ _ _ (by simp) ?_ (by rw[←D];exact h);intro j X O I;exfalso
   have G:=(Ai O).1;simp only[List.size_toArray]at G;rw[Lh,Array.getElem?_replicate,if_pos G]at I
   cases I)
  have D:q++[o]++t=q++o::t:=by simp
  have J:(q++[o]).length+t.length=q.length+(o::t).length:=by simp;omega
  rw[D,J]at U;exact U
theorem qea (a0:Act)(x:Tmp→Value): ∀ds,(lay a0 x ds).tmps.size=a0.tmps.size
 | []=>rfl
 | d::ds=>by
  show((lay a0 x ds).put (some d) (x d)).tmps.size=_
  simp[Act.put,qea a0 x ds]
theorem qfX (a0:Act)(x:Tmp→Value){d:Tmp}: ∀ds,d∉ds→(lay a0 x ds).tmps.getD d undef=a0.tmps.getD d undef
 | [],_=>rfl
 | e::ds,h=>by
  show((lay a0 x ds).put (some e) (x e)).tmps.getD d undef=_
  have q:e≠d:=fun o=>h (by simp[o])
  rw[←qfX a0 x ds (fun o=>h (by simp[o]))];simp[Act.put,Lh,Array.getElem?_setIfInBounds,q]
theorem qhF (a0:Act)(x:Tmp→Value){d:Tmp}(D:d<a0.tmps.size): ∀ds,d∈ds→(lay a0 x ds).tmps.getD d undef=x d
 | e::ds,h=>by
  show((lay a0 x ds).put (some e) (x e)).tmps.getD d undef=_
  by_cases q:e=d
  ·subst q;have G:e<(lay a0 x ds).tmps.size:=by rw[qea];exact D
   simp[Act.put,Lh,Array.getElem?_setIfInBounds,G]
  ·have o:d∈ds:=by
    rcases List.mem_cons.1 h with o|o
    ·exact absurd o.symm q
    ·exact o
   rw[←qhF a0 x D ds o];simp[Act.put,Lh,Array.getElem?_setIfInBounds,q]
def Za (a0:Act)(x:Tmp→Value)(ds:List Tmp)(A:Act):Prop:=(∀d,d∈ds→A.tmps.getD d undef=x d)∧ ∀d,d∉ds→A.tmps.getD d undef=a0.tmps.getD d undef
theorem JB {a0:Act}{x:Tmp→Value}{ds:List Tmp}(h: ∀d∈ds,d<a0.tmps.size):Za a0 x ds (lay a0 x ds):=⟨fun d o=>qhF a0 x (h d o) ds o,fun d o=>qfX a0 x ds o⟩
def StepO (P:Program)(init:List Oper)(ds:List Tmp)(a0:Act)(B:Nat)(w0:World)(gs:List (Value→World→Prop))(Q:Exit→Act→World→Prop)(i:Nat)(o:Oper):Prop:=
 ∀(A:Act) (x:Tmp→Value) (W:World),Za a0 x ds A→Below B w0 W→B≤W.heap.size→(∀e∈o.after,Region.binds .any e=true→ ∀oe,init[e.on]? =some oe→QK gs e.on (qJ x oe) W)→
  ∀K:Act→World→Prop,(∀v W',Below W.heap.size W W'→QK gs i v W'→K (A.put o.dst v) W')→Oper.wp P o A W K Q
theorem qaI {P:Program}{id:Nat}{w w0:World}{Q:Exit→Act→World→Prop}{a0:Act}{B:Nat}{l q tail:List Oper}{n:Nat}(ds:List Tmp)(gs:List (Value→World→Prop))(D:l.take n=q)(ht:l.drop n=tail)(af:q.filterMap (·.dst)=ds)(ac:(ds.all fun d=>decide (d<a0.tmps.size))=true)(ab:ds.Nodup)(O:yV q=true)
  (hg:(q.all fun o=>o.guard.isNone&&o.dst.isSome)=true) (hb:ZD .any q tail=true) (hm:P.follows .mixedOrders=true) (hw:Below B w0 w.drew) (hB:B≤w0.heap.size) (ae:qf6 gs)
  (U:yj (StepO P q ds a0 B w0 gs (qV P q tail Q)) 0 q)
  (aa: ∀(x:Tmp→Value) (W:World),Below B w0 W→B≤W.heap.size→yj (fun i o=>QK gs i (qJ x o) W) 0 q→qV P q tail Q .normal (lay a0 x ds) W):
  (Code.region id l.toArray true).wp P Q a0 w:=by
 have Z:l=q++tail:=by rw[←D,←ht];exact(List.take_append_drop _ _).symm
 clear D ht;subst Z;subst af;have J:=fun o G=>List.all_eq_true.1 hg o G
 refine wp_region_any hm ?_;have e:(q++tail).toArray.size=q.length+tail.length:=by simp
 rw[e];refine za tail q hb ?_;have H:=JR (P:=P) (ops:=q) (a0:=a0) (Q:=qV P q tail Q) (R:=fun W=>Below B w0 W) (Good:=QK gs) ab O (fun i o D x W I Y K hK=>by
   have G:=J o (List.mem_of_getElem? D);simp only[Bool.and_eq_true,Option.isNone_iff_eq_none]at G;have V:B≤W.heap.size:=Nat.le_trans hB I.size;rw[if_pos (by simp[Region.wanted,G.1])];exact Yi U i o D _ x W (JB (fun d hd=>of_decide_eq_true (List.all_eq_true.1 ac d hd))) I V Y K (fun v W' X ag=>hK v W' (I.trans (X.mono V)) (fun j u _ hj=>qbw ae hj X) ag))
  (fun i o v W D hd=>by
   have G:=J o (List.mem_of_getElem? D);rw[hd]at G;simp at G)
  (fun x W I hG=>aa x W I (Nat.le_trans hB I.size) (by
   have: ∀(l:List Oper) (n:Nat),(∀i o,l[i]? =some o→QK gs (n+i) (qJ x o) W)→yj (fun i o=>QK gs i (qJ x o) W) n l:=by
    intro l;induction l with
    | nil=>intro n _;trivial
    | cons o l ih=>
     intro n h;refine⟨by simpa using h 0 o (by simp),ih (n+1) (fun i o' D=>?_)⟩;have:=h (i+1) o' (by simpa using D)
     rw[show n+1+i=n+(i+1) by omega];exact this
   exact this q 0 (fun i o D=>by rw[Nat.zero_add];exact hG i o D)))
  q.length (Array.replicate q.length false) (fun d=>a0.tmps.getD d undef) w.drew (by simp) (by
   simp only[Array.toList_replicate,Zz,List.countP_replicate];simp) hw (fun i o D Z=>by
   have ad:i<q.length:=(List.getElem?_eq_some_iff.1 D).1;simp[Lh,ad]at Z)
 rw[Zm]at H;exact H
def StepR (P:Program)(init:List Oper)(ds:List Tmp)(a0:Act)(R:World→Prop)(gs:List (Value→World→Prop))(Q:Exit→Act→World→Prop)(i:Nat)(o:Oper):Prop:=
 ∀(A:Act) (x:Tmp→Value) (W:World),Za a0 x ds A→R W→(∀e∈o.after,Region.binds .any e=true→ ∀oe,init[e.on]? =some oe→QK gs e.on (qJ x oe) W)→
  ∀K:Act→World→Prop,(∀v W',R W'→(∀j u,j≠i→QK gs j u W→QK gs j u W')→QK gs i v W'→K (A.put o.dst v) W')→Oper.wp P o A W K Q
theorem qbO {P:Program}{id:Nat}{w:World}{Q:Exit→Act→World→Prop}{a0:Act}{l q tail:List Oper}{n:Nat}(R:World→Prop)(ds:List Tmp)(gs:List (Value→World→Prop))(D:l.take n=q)(ht:l.drop n=tail)(ae:q.filterMap (·.dst)=ds)(ac:(ds.all fun d=>decide (d<a0.tmps.size))=true)(aa:ds.Nodup)(I:yV q=true)
  (hg:(q.all fun o=>o.guard.isNone)=true) (hb:ZD .any q tail=true) (hm:P.follows .mixedOrders=true) (hw:R w.drew)
  (ab:yj (fun i o=>o.dst=none→ ∀v W,QK gs i v W→QK gs i undef W) 0 q)
  (J:yj (StepR P q ds a0 R gs (qV P q tail Q)) 0 q)
  (V: ∀(x:Tmp→Value) (W:World),R W→yj (fun i o=>QK gs i (qJ x o) W) 0 q→qV P q tail Q .normal (lay a0 x ds) W):
  (Code.region id l.toArray true).wp P Q a0 w:=by
 have U:l=q++tail:=by rw[←D,←ht];exact(List.take_append_drop _ _).symm
 clear D ht;subst U;subst ae;have Y:=fun o G=>List.all_eq_true.1 hg o G
 refine wp_region_any hm ?_;have e:(q++tail).toArray.size=q.length+tail.length:=by simp
 rw[e];refine za tail q hb ?_;have H:=JR (P:=P) (ops:=q) (a0:=a0) (Q:=qV P q tail Q) (R:=R) (Good:=QK gs) aa I (fun i o D x W X O K hK=>by
   have G:=Y o (List.mem_of_getElem? D);simp only[Option.isNone_iff_eq_none]at G;rw[if_pos (by simp[Region.wanted,G])];exact Yi J i o D _ x W (JB (fun d Z=>of_decide_eq_true (List.all_eq_true.1 ac d Z))) X O K hK)
  (fun i o v W D Z af=>Yi ab i o D Z v W af)
  (fun x W X hG=>V x W X (by
   have: ∀(l:List Oper) (n:Nat),(∀i o,l[i]? =some o→QK gs (n+i) (qJ x o) W)→yj (fun i o=>QK gs i (qJ x o) W) n l:=by
    intro l;induction l with
    | nil=>intro n _;trivial
    | cons o l ih=>
     intro n h;refine⟨by simpa using h 0 o (by simp),ih (n+1) (fun i o' D=>?_)⟩;have:=h (i+1) o' (by simpa using D)
     rw[show n+1+i=n+(i+1) by omega];exact this
   exact this q 0 (fun i o D=>by rw[Nat.zero_add];exact hG i o D)))
  q.length (Array.replicate q.length false) (fun d=>a0.tmps.getD d undef) w.drew (by simp) (by
   simp only[Array.toList_replicate,Zz,List.countP_replicate];simp) hw (fun i o D U=>by
   have ad:i<q.length:=(List.getElem?_eq_some_iff.1 D).1;simp[Lh,ad]at U)
 rw[Zm]at H;exact H
theorem BR {B:Nat}{w:World}:Below B w w:=Below.refl _ _
theorem kW {g:Value→Prop}: ∀(W W':World),Below W.heap.size W W'→ ∀v,g v→g v:=fun _ _ _ _ h=>h
theorem gv {a0 A:Act}{x:Tmp→Value}{ds:List Tmp}{gs:List (Value→World→Prop)}{D:List Oper}{W:World}{o:Array Edge}{v:Value}{q:Oper}(J:Za a0 x ds A)
    (G: ∀e∈o,Region.binds .any e=true→ ∀q,D[e.on]? =some q→QK gs e.on (qJ x q) W) (i s:Nat)
    (X:s∈ds:=by decide) (I:(⟨i,.data⟩:Edge)∈o:=by simp) (O:D[i]? =some q:=by rfl) (V:qJ x q=x s:=by rfl) (U:QK gs i=(fun u _=>u=v):=by rfl):A.tmps.getD s undef=v:=by
  have:=G _ I rfl q O
  rw[U,V]at this;exact(J.1 s X).trans this
def setD (D:Nat→Bool)(i:Nat):Nat→Bool:=fun j=>D j||j==i
def yJ (x:Tmp→Value)(d:Option Tmp)(v:Value):Tmp→Value:=match d with|some d=>upd x d v|none=>x
def qa0 (ops:List Oper)(D:Nat→Bool):Prop:= ∀j oj,ops[j]? =some oj→D j=true→ ∀e∈oj.after,Region.binds .any e=true→D e.on=true
theorem qhE (a0:Act)(x:Tmp→Value){ops:List Oper}(q:(ops.filterMap (·.dst)).Nodup){i:Nat}{o:Oper}(D:ops[i]? =some o)(v:Value):
  (lay a0 x (ops.filterMap (·.dst))).put o.dst v=lay a0 (yJ x o.dst v) (ops.filterMap (·.dst)):=by
 cases hd:o.dst with
 | none=>rfl
 | some d=>exact qaX a0 x d v _ q (List.mem_filterMap.2 ⟨o,List.mem_of_getElem? D,hd⟩)
section
variable {P:Program} {ops:List Oper} {a0:Act} {Q:Exit→Act→World→Prop} {R:(Nat→Bool)→(Tmp→Value)→World→Prop}
theorem qb9 (ak:(ops.filterMap (·.dst)).Nodup)(ae:yV ops=true)
  (af: ∀(i:Nat) (o:Oper),ops[i]? =some o→ ∀(D:Nat→Bool) (x:Tmp→Value) (W:World),R D x W→D i=false→(∀e∈o.after,Region.binds .any e=true→D e.on=true)→qa0 ops D→
   ∀K:Act→World→Prop,(∀v W',R (setD D i) (yJ x o.dst v) W'→K ((lay a0 x (ops.filterMap (·.dst))).put o.dst v) W')→
   if Region.wanted o (yielded ops.toArray (lay a0 x (ops.filterMap (·.dst))).tmps)=true then Oper.wp P o (lay a0 x (ops.filterMap (·.dst))) W K Q else K ((lay a0 x (ops.filterMap (·.dst))).put o.dst undef) W)
  (aa: ∀(D:Nat→Bool) (x:Tmp→Value) (W:World),R D x W→(∀i,D i=true)→Q .normal (lay a0 x (ops.filterMap (·.dst))) W):
  ∀(fuel:Nat) (q:Array Bool) (x:Tmp→Value) (W:World),q.size=ops.length→Zz q.toList≤fuel→R (fun j=>q.getD j true) x W→qa0 ops (fun j=>q.getD j true)→
   wpAny P .any ops.toArray Q fuel q (lay a0 x (ops.filterMap (·.dst))) W:=by
 intro fuel;induction fuel with
 | zero=>
  intro q x W hs ht hR hC;have ac: ∀i,q.getD i true=true:=fun i=>by
   have:=JT (l:=q.toList) (by omega) i
   simpa [Lh,Lg] using this
  refine⟨?_,aa _ x W hR ac⟩;rw[List.eq_nil_iff_forall_not_mem];intro j hj;have:=(mem_ready.1 hj).1
  rw[ac j]at this
  cases this
 | succ fuel ih=>
  intro q x W hs ht hR hC;refine⟨fun hr=>aa _ x W hR ?_,fun i hi=>?_⟩
  ·intro j;show q.getD j true=true
   induction j using Nat.strongRecOn with
   | _ j ihj=>
    cases hl:q.getD j true with
    | true=>rfl
    | false=>
     have hj:j<q.size:=by
      rw[Lh]at hl
      cases e:q[j]? with
      | none=>rw[e]at hl;cases hl
      | some b=>exact(Ai e).1
     obtain⟨O,Y⟩: ∃O,ops[j]? =some O:=⟨ops[j]'(by omega),by simp[show j<ops.length by omega]⟩;have hm:j∈Region.ready .any ops.toArray q:=mem_ready.2 ⟨hl,O,by simpa using Y,fun e U V=>by
      have am:=(QB ae Y).1 e U V;have h2:=ihj e.on am;have ai:e.on<q.size:=by omega
      simp only[Lh,Array.getElem?_eq_getElem ai,Option.getD_some]at h2⊢;exact h2⟩
     rw[hr]at hm;cases hm
  ·obtain⟨Z,o,Y,ah⟩:=mem_ready.1 hi;have I:ops[i]? =some o:=by simpa using Y
   have ab:i<q.size:=by
    have:=(List.getElem?_eq_some_iff.1 I).1
    omega
   have aj:q.toList[i]? =some false:=by
    rw[Lh,Array.getElem?_eq_getElem ab,Option.getD_some]at Z;rw[Array.getElem?_toList,Array.getElem?_eq_getElem ab,Z]
   have ad:Zz (q.setIfInBounds i true).toList≤fuel:=by
    have:=Ji q.toList i aj
    rw[Array.toList_setIfInBounds];omega
   have J: ∀e∈o.after,Region.binds .any e=true→q.getD e.on true=true:=fun e U V=>by
    have h6:=ah e U V;rw[Lh]at h6⊢
    cases e':q[e.on]? with
    | none=>rfl
    | some b=>rw[e']at h6;exact h6
   have X:(fun j=>(q.setIfInBounds i true).getD j true)=setD (fun j=>q.getD j true) i:=by
    funext j
    simp only[setD,Lh,Array.getElem?_setIfInBounds];by_cases e:i=j
    ·subst e;simp[ab]
    ·simp[e,Ne.symm e]
   refine wpOp_step Y fun K hK=>af i o I _ x W hR Z J hC K fun v W' al=>?_
   rw[qhE a0 x ak I v];refine hK _ _ ?_;refine ih _ (yJ x o.dst v) W' (by simpa using hs) ad (by rw[X];exact al) ?_;intro j O ag G e U V;rw[X]at G⊢;simp only[setD,Bool.or_eq_true,beq_iff_eq]at G⊢;rcases G with G|rfl
   ·exact .inl (hC j O ag G e U V)
   ·obtain rfl:o=O:=Option.some.inj (I.symm.trans ag);exact .inl (J e U V)
end
inductive GS where
 | own (q:Value→World→Prop)
 | far (ds:List Tmp) (q:List Value→World→Prop)
def Q1 (l:List Oper)(gs:List GS)(x:Tmp→Value)(W:World)(j:Nat):Prop:=match gs[j]?,l[j]? with
 | some (.own q),some o=>q (qJ x o) W
 | some (.far ds q),some _=>q (ds.map x) W
 | _,_=>True
def GS.stay:GS→World→World→Prop
 | .own q,W,W'=> ∀v,q v W→q v W'
 | .far _ q,W,W'=> ∀v,q v W→q v W'
def qey:List GS→Prop
 | []=>True
 | g::gs=>(∀W W',Below W.heap.size W W'→g.stay W W')∧qey gs
theorem qa7: ∀{gs:List GS},qey gs→ ∀{j:Nat} {g:GS},gs[j]? =some g→ ∀W W',Below W.heap.size W W'→g.stay W W'
 | [],_,j,g,h,_,_,_=>by simp at h
 | _::_,hs,0,g,h,W,W',hb=>by simp at h;subst h;exact hs.1 W W' hb
 | _::gs,hs,j+1,g,h,W,W',hb=>qa7 (gs:=gs) hs.2 (by simpa using h) W W' hb
def qdv (W W':World)(s:Nat):Nat→List GS→Prop
 | _,[]=>True
 | n,g::gs=>(n=s∨g.stay W W')∧qdv W W' s (n+1) gs
theorem qa8 {W W':World}{s:Nat}: ∀{gs:List GS} {n:Nat},qdv W W' s n gs→ ∀{j:Nat} {g:GS},gs[j]? =some g→n+j≠s→g.stay W W'
 | [],_,_,j,g,h,_=>by simp at h
 | _::_,n,hs,0,g,h,hne=>by
  simp at h;subst h
  rcases hs.1 with o|o
  ·exact absurd o (by simpa using hne)
  ·exact o
 | _::gs,n,hs,j+1,g,h,hne=>qa8 (gs:=gs) hs.2 (by simpa using h) (by omega)
def JW (l:List Oper)(gs:List GS):Bool:=(List.range l.length).all fun j=>match l[j]?,gs[j]? with
 | some oj,some (.far ds _)=>ds.all fun d=>oj.after.any fun e=>Region.binds .any e&&(match l[e.on]? with|some oe=>oe.dst==some d|none=>false)
 | _,_=>true
theorem zr {l:List Oper}{gs:List GS}(h:JW l gs=true){j:Nat}{I:Oper}{ds:List Tmp}{q:List Value→World→Prop}(O:l[j]? =some I)(V:gs[j]? =some (.far ds q)){d:Tmp}(X:d∈ds):
  ∃e∈I.after,Region.binds .any e=true∧ ∃D,l[e.on]? =some D∧D.dst=some d:=by
 have G:j<l.length:=(List.getElem?_eq_some_iff.1 O).1;have J:=List.all_eq_true.1 h j (List.mem_range.2 G);rw[O,V]at J;obtain⟨e,U,o⟩:=Array.any_eq_true'.1 (List.all_eq_true.1 J d X);rw[Bool.and_eq_true]at o;refine⟨e,U,o.1,?_⟩
 cases ho:l[e.on]? with
 | none=>rw[ho]at o;simp at o
 | some D=>rw[ho]at o;exact⟨D,rfl,by simpa using o.2⟩
def qb4 (gs:List GS)(s i:Nat)(o:Oper):Bool:=(match gs[i]? with|some (.far _ _)=>false|_=>true)&&i != s&&o.dst.isSome
def qb3 (gs:List GS)(i:Nat)(v:Value)(W:World):Prop:=match gs[i]? with|some (.own q)=>q v W|_=>True
def atG (gs:List GS)(i:Nat)(x:Tmp→Value)(v:Value)(W:World):Prop:=match gs[i]? with|some (.far ds q)=>q (ds.map x) W|some (.own q)=>q v W|none=>True
def StepG (P:Program)(l:List Oper)(ds:List Tmp)(a0:Act)(Rb:Bool→World→Prop)(s:Nat)(gs:List GS)(Q:Exit→Act→World→Prop)(i:Nat)(o:Oper):Prop:=
 ∀(A:Act) (x:Tmp→Value) (W:World) (f:Bool),Za a0 x ds A→Rb f W→(jV l s i=true→f=false)→(∀e∈o.after,Region.binds .any e=true→Q1 l gs x W e.on)→
  ∀K:Act→World→Prop,(∀v W',Below W.heap.size W W'→qb3 gs i v W'→K (A.put o.dst v) W')→Oper.wp P o A W K Q
def qh4 (P:Program)(l:List Oper)(ds:List Tmp)(a0:Act)(Rb:Bool→World→Prop)(s:Nat)(gs:List GS)(Q:Exit→Act→World→Prop)(o:Oper):Prop:=
 ∀(A:Act) (x:Tmp→Value) (W:World),Za a0 x ds A→Rb false W→(∀e∈o.after,Region.binds .any e=true→Q1 l gs x W e.on)→
  ∀K:Act→World→Prop,(∀v W',(o.dst=none→v=undef)→Rb true W'→qdv W W' s 0 gs→atG gs s x v W'→K (A.put o.dst v) W')→Oper.wp P o A W K Q
theorem qa9 {l:List Oper}(D:yV l=true){i j:Nat}{o q:Oper}(I:l[i]? =some o)(J:l[j]? =some q)(G:j≠i)(x:Tmp→Value)(v:Value):qJ (yJ x o.dst v) q=qJ x q:=by
 unfold qJ yJ
 cases hd:o.dst with
 | none=>rfl
 | some d=>
  cases hd':q.dst with
  | none=>rfl
  | some d'=>
   have:d'≠d:=fun e=>G ((QB D I).2 j q d J hd (by rw[hd',e]))
   simp[upd,this]
theorem qa2 {P:Program}{id:Nat}{w:World}{Q:Exit→Act→World→Prop}{a0:Act}{L l tail:List Oper}{n:Nat}(J:L.take n=l)(ht:L.drop n=tail)(au:ZD .any l tail=true)(Rb:Bool→World→Prop)(s:Nat)(ds:List Tmp)(gs:List GS)(az:l.filterMap (·.dst)=ds)(ao:(ds.all fun d=>decide (d<a0.tmps.size))=true)(ar:ds.Nodup)(I:yV l=true)
  (hg:(l.all fun o=>o.guard.isNone)=true) (ak:JW l gs=true) (hs:s<l.length) (hm:P.follows .mixedOrders=true) (hw:Rb false w.drew) (aA: ∀f W W',Rb f W→Below W.heap.size W W'→Rb f W') (aw:qey gs)
  (ai:yj (fun i o=>(qb4 gs s i o=true∧StepG P l ds a0 Rb s gs (qV P l tail Q) i o)∨(i=s∧qh4 P l ds a0 Rb s gs (qV P l tail Q) o)) 0 l)
  (am: ∀(x:Tmp→Value) (W:World),Rb true W→yj (fun i _=>Q1 l gs x W i) 0 l→qV P l tail Q .normal (lay a0 x ds) W):
  (Code.region id L.toArray true).wp P Q a0 w:=by
 have hL:L=l++tail:=by rw[←J,←ht];exact(List.take_append_drop _ _).symm
 clear J ht;subst hL;subst az;have al:=fun o ho=>List.all_eq_true.1 hg o ho
 have an:=hs;refine wp_region_any hm ?_;have eL:(l++tail).toArray.size=l.length+tail.length:=by simp
 rw[eL];refine za tail l au ?_;have H:=qb9 (P:=P) (ops:=l) (a0:=a0) (Q:=qV P l tail Q) (R:=fun D x W=>Rb (D s) W∧ ∀i,D i=true→Q1 l gs x W i) ar I (fun i o J D x W hR ae ah hC K hK=>by
   have ho:=al o (List.mem_of_getElem? J);rw[Option.isNone_iff_eq_none]at ho;rw[if_pos (by simp[Region.wanted,ho])];have hL:Za a0 x (l.filterMap (·.dst)) (lay a0 x (l.filterMap (·.dst))):=JB (fun d hd=>of_decide_eq_true (List.all_eq_true.1 ao d hd));have aa: ∀(j:Nat) (v:Value) (W':World),j≠i→D j=true→(∀g,gs[j]? =some g→g.stay W W')→Q1 l gs (yJ x o.dst v) W' j:=fun j v W' G ab X=>by
    have Y:=hR.2 j ab;unfold Q1 at Y⊢
    cases hgj:gs[j]? with
    | none=>trivial
    | some g=>
     cases Z:l[j]? with
     | none=>cases g<;>trivial
     | some oj=>
      rw[hgj,Z]at Y
      cases g with
      | own q=>
       show q (qJ (yJ x o.dst v) oj) W'
       rw[qa9 I J Z G];exact X _ hgj _ Y
      | far dl q=>
       show q (dl.map (yJ x o.dst v)) W'
       have e:dl.map (yJ x o.dst v)=dl.map x:=by
        refine List.map_congr_left fun d hd=>?_
        unfold yJ
        cases hdo:o.dst with
        | none=>rfl
        | some d'=>
         have:d≠d':=by
          rintro rfl
          obtain⟨e,he,O,oe,af,ag⟩:=zr ak Z hgj hd;have h1:=(QB I J).2 e.on oe d af hdo ag;have h2:=hC j oj Z ab e he O;rw[h1,ae]at h2
          cases h2
         simp[upd,this]
       rw[e];exact X _ hgj _ Y
   rcases Yi ai i o J with⟨U,hG⟩|⟨rfl,hS⟩
   ·unfold qb4 at U;simp only[Bool.and_eq_true,bne_iff_ne]at U;refine hG _ x W (D s) hL hR.1 (fun ap=>?_) (fun e he O=>hR.2 _ (ah e he O)) K (fun v W' aj V=>hK v W' ⟨?_,fun j hj=>?_⟩)
    ·obtain⟨o',ax,e,he,O,aq⟩:=qaj ap
     cases hDs:D s with
     | false=>rfl
     | true=>
      have:=hC s o' ax hDs e he O
      rw[aq,ae]at this;cases this
    ·have e:setD D i s=D s:=by
      have:(s==i)=false:=by rw[beq_eq_false_iff_ne];exact Ne.symm U.1.2
      simp[setD,this]
     rw[e];exact aA _ _ _ hR.1 aj
    ·by_cases G:j=i
     ·subst G;unfold Q1;unfold qb3 at V
      cases hgj:gs[j]? with
      | none=>trivial
      | some g=>
       rw[hgj]at V U;rw[J]
       cases g with
       | own q=>
        obtain⟨d,hd⟩:=Option.isSome_iff_exists.1 U.2;have:qJ (yJ x o.dst v) o=v:=by unfold qJ yJ;rw[hd];simp[upd]
        show q (qJ (yJ x o.dst v) o) W'
        rw[this];exact V
       | far dl q=>simp at U
     ·have ab:D j=true:=by
       have O:(j==i)=false:=by rw[beq_eq_false_iff_ne];exact G
       simpa [setD,O] using hj
      exact aa j v W' G ab fun g ac=>qa7 aw ac W W' aj
   ·refine hS _ x W hL (ae▸hR.1) (fun e he O=>hR.2 _ (ah e he O)) K (fun v W' hv av X V=>?_);refine hK v W' ⟨?_,fun j hj=>?_⟩
    ·have:setD D i i=true:=by simp[setD]
     rw[this];exact av
    ·by_cases G:j=i
     ·subst G;unfold Q1;unfold atG at V
      cases hgj:gs[j]? with
      | none=>trivial
      | some g=>
       rw[hgj]at V;rw[J]
       cases g with
       | own q=>
        show q (qJ (yJ x o.dst v) o) W'
        have:qJ (yJ x o.dst v) o=v:=by
         unfold qJ yJ
         cases hd:o.dst with
         | none=>exact(hv hd).symm
         | some d=>simp[upd]
        rw[this];exact V
       | far dl q=>
        show q (dl.map (yJ x o.dst v)) W'
        have e:dl.map (yJ x o.dst v)=dl.map x:=by
         refine List.map_congr_left fun d hd=>?_
         unfold yJ
         cases hdo:o.dst with
         | none=>rfl
         | some d'=>
          have:d≠d':=by
           rintro rfl
           obtain⟨e,he,O,oe,af,ag⟩:=zr ak J hgj hd;have h1:=(QB I J).2 e.on oe d af hdo ag;have h2:=(QB I J).1 e he O;omega
          simp[upd,this]
        rw[e];exact V
     ·have ab:D j=true:=by
       have O:(j==i)=false:=by rw[beq_eq_false_iff_ne];exact G
       simpa [setD,O] using hj
      exact aa j v W' G ab fun g ac=>qa8 X ac (by simpa using G))
  (fun D x W hR hD=>am x W (hD s▸hR.1) (by
   have: ∀(m:List Oper) (n:Nat),yj (fun i _=>Q1 l gs x W i) n m:=by
    intro m;induction m with
    | nil=>intro n;trivial
    | cons o m ih=>intro n;exact⟨hR.2 n (hD n),ih (n+1)⟩
   exact this l 0))
  l.length (Array.replicate l.length false) (fun d=>a0.tmps.getD d undef) w.drew (by simp) (by
   simp only[Array.toList_replicate,Zz,List.countP_replicate];simp) ⟨by
    have:(Array.replicate l.length false).getD s true=false:=by simp[Lh,an]
    show Rb ((Array.replicate l.length false).getD s true) w.drew
    rw[this];exact hw,fun i J=>by
    have aB: ¬i<l.length:=fun ad=>by simp[Lh,ad]at J
    unfold Q1;rw[List.getElem?_eq_none (l:=l) (by omega)]
    cases gs[i]? with
    | none=>trivial
    | some g=>cases g<;>trivial⟩ (fun j oj ay Z=>by
    have ad:j<l.length:=(List.getElem?_eq_some_iff.1 ay).1;simp[Lh,ad]at Z)
 rw[Zm]at H;exact H
theorem gw {a0 A:Act}{x:Tmp→Value}{ds:List Tmp}{gs:List GS}{l:List Oper}{W:World}{o:Array Edge}{v:Value}(G:Za a0 x ds A)
    (q: ∀e∈o,Region.binds .any e=true→Q1 l gs x W e.on) (i s:Nat)
    (J:s∈ds:=by decide) (D:(⟨i,.data⟩:Edge)∈o:=by simp) (I:Q1 l gs x W i=(x s=v):=by rfl):A.tmps.getD s undef=v:=by
  have:=q _ D rfl
  rw[I]at this;exact(G.1 s J).trans this
inductive Sp where
 | v (d:Tmp) (u:Value)
 | p (d:Tmp) (q:Value→World→Prop)
 | s (q:World→Prop)
 | f (d:Option Tmp) (ds:List Tmp) (q:List Value→World→Prop)
def Sp.dst:Sp→Option Tmp
 | .v d _=>some d
 | .p d _=>some d
 | .s _=>none
 | .f d _ _=>d
def Sp.says:Sp→Value→World→Prop
 | .v _ u=>fun y _=>y=u
 | .p _ q=>q
 | .s q=>fun _ W=>q W
 | .f _ _ _=>fun _ _=>True
def Sp.gs:Sp→GS
 | .v _ u=> .own fun y _=>y=u
 | .p _ q=> .own q
 | .s q=> .far [] fun _ W=>q W
 | .f _ ds q=> .far ds q
def QV:List Sp→Act→World→Nat→Prop
 | .v d u::_,A,_,0=>A.tmps.getD d undef=u
 | .p d q::_,A,W,0=>q (A.tmps.getD d undef) W
 | _::l,A,W,n+1=>QV l A W n
 | _,_,_,_=>True
def QN (sp:List Sp)(A:Act)(W:World):List Edge→Prop
 | []=>True
 | ⟨i,.data⟩::l=>QV sp A W i∧QN sp A W l
 | _::l=>QN sp A W l
def QA (a0:Act)(x:Tmp→Value):List Sp→Act
 | []=>a0
 | .v d u::l=>(QA a0 x l).put (some d) u
 | .p d _::l=>(QA a0 x l).put (some d) (x d)
 | .s _::l=>QA a0 x l
 | .f (some d) _ _::l=>(QA a0 x l).put (some d) (x d)
 | .f none _ _::l=>QA a0 x l
def qaU (x:Tmp→Value)(W:World):List Sp→Prop
 | []=>True
 | .v _ _::l=>qaU x W l
 | .p d q::l=>q (x d) W∧qaU x W l
 | .s q::l=>q W∧qaU x W l
 | .f _ ds q::l=>q (ds.map x) W∧qaU x W l
def qex:List Sp→Prop
 | []=>True
 | .p _ q::l=>(∀v W W',q v W→Below W.heap.size W W'→q v W')∧qex l
 | .s q::l=>(∀W W',q W→Below W.heap.size W W'→q W')∧qex l
 | _::l=>qex l
def qaH:List Sp→Prop
 | []=>True
 | .p _ q::l=>(∀W W',Below W.heap.size W W'→ ∀v,q v W→q v W')∧qaH l
 | .s q::l=>(∀W W',Below W.heap.size W W'→q W→q W')∧qaH l
 | .f _ _ q::l=>(∀W W',Below W.heap.size W W'→ ∀v,q v W→q v W')∧qaH l
 | _::l=>qaH l
theorem ZF: ∀{sp:List Sp},qex sp→qf6 (sp.map Sp.says)
 | [],_=>trivial
 | .v _ _::_,h=>⟨fun _ _ _ h _=>h,ZF h⟩
 | .p _ _::_,h=>⟨h.1,ZF h.2⟩
 | .s _::_,h=>⟨fun _ W W'=>h.1 W W',ZF h.2⟩
 | .f _ _ _::_,h=>⟨fun _ _ _ h _=>h,ZF h⟩
theorem zW: ∀{sp:List Sp},qaH sp→qey (sp.map Sp.gs)
 | [],_=>trivial
 | .v _ _::_,h=>⟨fun _ _ _ _ h=>h,zW h⟩
 | .p _ _::_,h=>⟨h.1,zW h.2⟩
 | .s _::_,h=>⟨fun W W' o _=>h.1 W W' o,zW h.2⟩
 | .f _ _ _::_,h=>⟨h.1,zW h.2⟩
theorem J9 {sp:List Sp}{i:Nat}{s:Sp}(h:sp[i]? =some s)(v:Value)(W:World):QK (sp.map Sp.says) i v W=s.says v W:=by
 unfold QK;rw[List.getElem?_map,h];rfl
theorem J8 {sp:List Sp}{D:List Oper}{x:Tmp→Value}{i:Nat}{s:Sp}{o:Oper}(h:sp[i]? =some s)(G:D[i]? =some o)(W:World):
  Q1 D (sp.map Sp.gs) x W i=match s.gs with| .own q=>q (qJ x o) W| .far ds q=>q (ds.map x) W:=by
 unfold Q1;rw[List.getElem?_map,h,G]
 cases s<;>rfl
theorem qaa {sp:List Sp}{q:List Oper}(G:q.map (·.dst)=sp.map Sp.dst){i:Nat}{o:Oper}(D:q[i]? =some o): ∃s,sp[i]? =some s∧s.dst=o.dst:=by
 have h:=congrArg (fun l:List (Option Tmp)=>l[i]?) G;simp only[List.getElem?_map,D,Option.map_some]at h
 cases hs:sp[i]? with
 | none=>rw[hs]at h;cases h
 | some s=>rw[hs]at h;exact⟨s,rfl,by simpa using h.symm⟩
theorem jp: ∀{sp:List Sp} {A:Act} {W:World} {i:Nat},(∀d u,sp[i]? =some (.v d u)→A.tmps.getD d undef=u)→(∀d q,sp[i]? =some (.p d q)→q (A.tmps.getD d undef) W)→QV sp A W i
 | [],_,_,0,_,_=>trivial
 | [],_,_,_+1,_,_=>trivial
 | .v _ _::_,_,_,0,h,_=>h _ _ rfl
 | .p _ _::_,_,_,0,_,h=>h _ _ rfl
 | .s _::_,_,_,0,_,_=>trivial
 | .f _ _ _::_,_,_,0,_,_=>trivial
 | .v _ _::l,A,W,i+1,h,k=>jp (sp:=l) (A:=A) (W:=W) (i:=i) (fun d u e=>h d u (by simpa using e)) (fun d q e=>k d q (by simpa using e))
 | .p _ _::l,A,W,i+1,h,k=>jp (sp:=l) (A:=A) (W:=W) (i:=i) (fun d u e=>h d u (by simpa using e)) (fun d q e=>k d q (by simpa using e))
 | .s _::l,A,W,i+1,h,k=>jp (sp:=l) (A:=A) (W:=W) (i:=i) (fun d u e=>h d u (by simpa using e)) (fun d q e=>k d q (by simpa using e))
 | .f _ _ _::l,A,W,i+1,h,k=>jp (sp:=l) (A:=A) (W:=W) (i:=i) (fun d u e=>h d u (by simpa using e)) (fun d q e=>k d q (by simpa using e))
theorem zI {sp:List Sp}{A:Act}{W:World}: ∀(l:List Edge),(∀e∈l,Region.binds .any e=true→QV sp A W e.on)→QN sp A W l
 | [],_=>trivial
 | ⟨_,.data⟩::l,h=>⟨h _ (List.mem_cons_self ..) rfl,zI l (fun e o=>h e (List.mem_cons_of_mem _ o))⟩
 | ⟨_,.chain⟩::l,h=>zI l (fun e o=>h e (List.mem_cons_of_mem _ o))
 | ⟨_,.guard⟩::l,h=>zI l (fun e o=>h e (List.mem_cons_of_mem _ o))
 | ⟨_,.phase⟩::l,h=>zI l (fun e o=>h e (List.mem_cons_of_mem _ o))
 | ⟨_,.textOnly _⟩::l,h=>zI l (fun e o=>h e (List.mem_cons_of_mem _ o))
 | ⟨_,.gcOnly _⟩::l,h=>zI l (fun e o=>h e (List.mem_cons_of_mem _ o))
theorem Jw {q:List Oper}{i:Nat}{o:Oper}{d:Tmp}(h:q[i]? =some o)(D:o.dst=some d):d∈q.filterMap (·.dst):=List.mem_filterMap.2 ⟨o,List.mem_of_getElem? h,D⟩
theorem qfq (a0:Act){x:Tmp→Value}: ∀{sp:List Sp} {D:List Oper},D.map (·.dst)=sp.map Sp.dst→(∀(i:Nat) (d:Tmp) (u:Value),sp[i]? =some (.v d u)→x d=u)→lay a0 x (D.filterMap (·.dst))=QA a0 x sp
 | [],[],_,_=>rfl
 | [],_::_,h,_=>by simp at h
 | _::_,[],h,_=>by simp at h
 | s::sp,o::D,h,hv=>by
  simp only[List.map_cons,List.cons.injEq]at h;have I:=qfq a0 (x:=x) h.2 (fun i d u e=>hv (i+1) d u (by simpa using e))
  cases s with
  | v d u=>
   have G:o.dst=some d:=h.1;rw[List.filterMap_cons,G];show(lay a0 x (D.filterMap _)).put (some d) (x d)=(QA a0 x sp).put (some d) u
   rw[I,hv 0 d u rfl]
  | p d q=>
   have G:o.dst=some d:=h.1;rw[List.filterMap_cons,G];show(lay a0 x (D.filterMap _)).put (some d) (x d)=(QA a0 x sp).put (some d) (x d)
   rw[I]
  | s q=>
   have G:o.dst=none:=h.1;rw[List.filterMap_cons,G];exact I
  | f d ds q=>
   cases d with
   | none=>
    have G:o.dst=none:=h.1;rw[List.filterMap_cons,G];exact I
   | some d=>
    have G:o.dst=some d:=h.1;rw[List.filterMap_cons,G];show(lay a0 x (D.filterMap _)).put (some d) (x d)=(QA a0 x sp).put (some d) (x d)
    rw[I]
theorem jx {x:Tmp→Value}{W:World}: ∀{sp:List Sp},(∀(i:Nat) (s:Sp),sp[i]? =some s→match s with| .v _ _=>True| .p d q=>q (x d) W| .s q=>q W| .f _ ds q=>q (ds.map x) W)→qaU x W sp
 | [],_=>trivial
 | .v _ _::l,h=>jx (sp:=l) (fun i s e=>h (i+1) s (by simpa using e))
 | .p _ _::l,h=>⟨h 0 _ rfl,jx (sp:=l) (fun i s e=>h (i+1) s (by simpa using e))⟩
 | .s _::l,h=>⟨h 0 _ rfl,jx (sp:=l) (fun i s e=>h (i+1) s (by simpa using e))⟩
 | .f _ _ _::l,h=>⟨h 0 _ rfl,jx (sp:=l) (fun i s e=>h (i+1) s (by simpa using e))⟩
theorem Ya: ∀{q:List Oper} {sp:List Sp},q.map (·.dst)=sp.map Sp.dst→q.filterMap (·.dst)=sp.filterMap Sp.dst
 | [],[],_=>rfl
 | [],_::_,h=>by simp at h
 | _::_,[],h=>by simp at h
 | o::q,s::sp,h=>by
  simp only[List.map_cons,List.cons.injEq]at h;have D:=Ya h.2;rw[List.filterMap_cons,List.filterMap_cons,h.1,D]
theorem depL {sp:List Sp}{D:List Oper}{a0 A:Act}{x:Tmp→Value}{ds:List Tmp}{W:World}{o:Array Edge}(aa:D.filterMap (·.dst)=ds)(hl:D.map (·.dst)=sp.map Sp.dst)(ab: ∀e∈o,e.on<D.length)(hA:Za a0 x ds A)
  (X: ∀e∈o,Region.binds .any e=true→ ∀G,D[e.on]? =some G→QK (sp.map Sp.says) e.on (qJ x G) W):QN sp A W o.toList:=by
 subst aa;refine zI _ fun e U hb=>?_
 have U:e∈o:=Array.mem_toList_iff.1 U;obtain⟨G,I⟩: ∃G,D[e.on]? =some G:=⟨_,List.getElem?_eq_getElem (ab e U)⟩;obtain⟨s,Y,V⟩:=qaa hl I;have Z:=X e U hb G I;rw[J9 Y]at Z;refine jp (fun d u O=>?_) (fun d q O=>?_)
 ·rw[Y]at O;obtain rfl:=Option.some.inj O;have J:G.dst=some d:=V.symm;rw[hA.1 d (Jw I J)];have:qJ x G=x d:=by unfold qJ;rw[J]
  rw[←this];exact Z
 ·rw[Y]at O;obtain rfl:=Option.some.inj O;have J:G.dst=some d:=V.symm;rw[hA.1 d (Jw I J)];have:qJ x G=x d:=by unfold qJ;rw[J]
  rw[←this];exact Z
theorem endL {sp:List Sp}{D:List Oper}{a0:Act}{x:Tmp→Value}{W:World}(V:D.map (·.dst)=sp.map Sp.dst)(U:(sp.all fun s=>match s with| .f _ _ _=>false|_=>true)=true)
  (h:yj (fun i o=>QK (sp.map Sp.says) i (qJ x o) W) 0 D):qaU x W sp∧lay a0 x (D.filterMap (·.dst))=QA a0 x sp:=by
 have X: ∀(i:Nat) (s:Sp),sp[i]? =some s→ ∃o,D[i]? =some o∧o.dst=s.dst∧s.says (qJ x o) W:=fun i s I=>by
  have J:=congrArg (fun l:List (Option Tmp)=>l[i]?) V;simp only[List.getElem?_map,I,Option.map_some]at J
  cases ho:D[i]? with
  | none=>rw[ho]at J;cases J
  | some o=>
   rw[ho]at J;have G:=Yi h i o ho;rw[J9 I]at G;exact⟨o,rfl,by simpa using J,G⟩
 refine⟨jx fun i s I=>?_,qfq a0 V fun i d u I=>?_⟩
 ·obtain⟨o, -,O,G⟩:=X i s I
  cases s with
  | v d u=>trivial
  | p d q=>
   have:qJ x o=x d:=by unfold qJ;rw[O];rfl
   show q (x d) W
   rw[←this];exact G
  | s q=>exact G
  | f d ds q=>exact absurd (List.all_eq_true.1 U _ (List.mem_of_getElem? I)) (by simp)
 ·obtain⟨o, -,O,G⟩:=X i _ I;have:qJ x o=x d:=by unfold qJ;rw[O];rfl
  rw[←this];exact G
def qad (l:List Oper):Bool:=l.all fun o=>o.after.all fun e=>decide (e.on<l.length)
theorem YW {l:List Oper}(h:qad l=true){i:Nat}{o:Oper}(D:l[i]? =some o): ∀e∈o.after,e.on<l.length:=fun e q=>
 of_decide_eq_true (Array.all_eq_true'.1 (List.all_eq_true.1 h o (List.mem_of_getElem? D)) e q)
def StepC (P:Program)(init:List Oper)(ds:List Tmp)(a0:Act)(B:Nat)(w0:World)(sp:List Sp)(Q:Exit→Act→World→Prop)(i:Nat)(o:Oper):Prop:=
 ∀(A:Act) (x:Tmp→Value) (W:World),Za a0 x ds A→Below B w0 W→B≤W.heap.size→(∀e∈o.after,Region.binds .any e=true→ ∀oe,init[e.on]? =some oe→QK (sp.map Sp.says) e.on (qJ x oe) W)→QN sp A W o.after.toList→
  ∀K:Act→World→Prop,(∀v W',Below W.heap.size W W'→QK (sp.map Sp.says) i v W'→K (A.put o.dst v) W')→Oper.wp P o A W K Q
theorem z8 {p q:Nat→Oper→Prop}(l:List Oper): ∀(n:Nat) (m:List Oper),(∀i o,m[i]? =some o→p (n+i) o→q (n+i) o)→yj p n m→yj q n m
 | _,[],_,_=>trivial
 | n,o::m,h,k=>⟨h 0 o rfl k.1,z8 l (n+1) m (fun i I G D=>by
   rw[show n+1+i=n+(i+1) by omega]at D⊢;exact h (i+1) I (by simpa using G) D) k.2⟩
theorem qD {P:Program}{id:Nat}{w w0:World}{Q:Exit→Act→World→Prop}{a0:Act}{B:Nat}{l q tail:List Oper}{n:Nat}{ds:List Tmp}(sp:List Sp)(ac:qex sp)(hw:Below B w0 w.drew)(hB:B≤w0.heap.size)
  (O:yj (StepC P q ds a0 B w0 sp (qV P q tail Q)) 0 q)
  (X: ∀(x:Tmp→Value) (W:World),Below B w0 W→B≤W.heap.size→qaU x W sp→qV P q tail Q .normal (QA a0 x sp) W)
  (hi:l.take n=q:=by dsimp only[List.take]) (ht:l.drop n=tail:=by dsimp only[List.drop]) (ae:sp.filterMap Sp.dst=ds:=by dsimp only[List.filterMap,Sp.dst]) (V:q.map (·.dst)=sp.map Sp.dst:=by rfl)
  (ab:(ds.all fun d=>decide (d<a0.tmps.size))=true:=by rfl) (Z:ds.Nodup:=by decide) (J:yV q=true:=by kernel_rfl)
  (hg:(q.all fun o=>o.guard.isNone&&o.dst.isSome)=true:=by rfl) (hb:ZD .any q tail=true:=by kernel_rfl) (ad:qad q=true:=by kernel_rfl) (hm:P.follows .mixedOrders=true:=by kernel_rfl)
  (aa:(sp.all fun s=>match s with| .f _ _ _=>false|_=>true)=true:=by rfl):
  (Code.region id l.toArray true).wp P Q a0 w:=by
 have D:q.filterMap (·.dst)=ds:=(Ya V).trans ae;refine qaI (n:=n) (w0:=w0) (B:=B) ds (sp.map Sp.says) hi ht D ab Z J hg hb hm hw hB (ZF ac) ?_ ?_
 ·refine z8 q 0 q (fun i o ho h=>?_) O;rw[Nat.zero_add]at h⊢;exact fun A x W hA U I G K hK=>h A x W hA U I G (depL D V (YW ad ho) hA G) K hK
 ·intro x W U I Y;obtain⟨h1,h2⟩:=endL (a0:=a0) V aa Y;rw[D]at h2;rw[h2];exact X x W U I h1
def qi1 (P:Program)(init:List Oper)(ds:List Tmp)(a0:Act)(R:World→Prop)(sp:List Sp)(Q:Exit→Act→World→Prop)(i:Nat)(o:Oper):Prop:=
 ∀(A:Act) (x:Tmp→Value) (W:World),Za a0 x ds A→R W→(∀e∈o.after,Region.binds .any e=true→ ∀oe,init[e.on]? =some oe→QK (sp.map Sp.says) e.on (qJ x oe) W)→QN sp A W o.after.toList→
  ∀K:Act→World→Prop,(∀v W',R W'→(∀j u,j≠i→QK (sp.map Sp.says) j u W→QK (sp.map Sp.says) j u W')→QK (sp.map Sp.says) i v W'→K (A.put o.dst v) W')→Oper.wp P o A W K Q
theorem Jf {P:Program}{id:Nat}{w:World}{Q:Exit→Act→World→Prop}{a0:Act}{l D tail:List Oper}{n:Nat}{ds:List Tmp}(R:World→Prop)(sp:List Sp)(hw:R w.drew)
  (Y:yj (qi1 P D ds a0 R sp (qV P D tail Q)) 0 D)
  (Z: ∀(x:Tmp→Value) (W:World),R W→qaU x W sp→qV P D tail Q .normal (QA a0 x sp) W)
  (O:l.take n=D:=by dsimp only[List.take]) (ht:l.drop n=tail:=by dsimp only[List.drop]) (af:sp.filterMap Sp.dst=ds:=by dsimp only[List.filterMap,Sp.dst]) (U:D.map (·.dst)=sp.map Sp.dst:=by rfl)
  (ad:(ds.all fun d=>decide (d<a0.tmps.size))=true:=by rfl) (ab:ds.Nodup:=by decide) (V:yV D=true:=by kernel_rfl)
  (X:(D.all fun o=>o.guard.isNone)=true:=by rfl) (hb:ZD .any D tail=true:=by kernel_rfl) (ae:qad D=true:=by kernel_rfl) (hm:P.follows .mixedOrders=true:=by kernel_rfl)
  (ac:(sp.all fun s=>match s with| .f _ _ _=>false|_=>true)=true:=by rfl):
  (Code.region id l.toArray true).wp P Q a0 w:=by
 have G:D.filterMap (·.dst)=ds:=(Ya U).trans af;refine qbO (n:=n) R ds (sp.map Sp.says) O ht G ad ab V X hb hm hw ?_ ?_ ?_
 ·have: ∀(m:List Oper) (n:Nat),(∀i o,m[i]? =some o→D[n+i]? =some o)→yj (fun i o=>o.dst=none→ ∀v W,QK (sp.map Sp.says) i v W→QK (sp.map Sp.says) i undef W) n m:=by
   intro m;induction m with
   | nil=>intro n _;trivial
   | cons o m ih=>
    intro n h;refine⟨fun hd v W X=>?_,ih (n+1) (fun i o' O=>by rw[show n+1+i=n+(i+1) by omega];exact h (i+1) o' (by simpa using O))⟩;have h0:D[n]? =some o:=h 0 o rfl;obtain⟨s,hs,I⟩:=qaa U h0;rw[J9 hs]at X⊢
    cases s with
    | v d u=>rw[hd]at I;cases I
    | p d q=>rw[hd]at I;cases I
    | s q=>exact X
    | f d ds q=>trivial
  exact this D 0 (fun i o O=>by rw[Nat.zero_add];exact O)
 ·refine z8 D 0 D (fun i o ho h=>?_) Y;rw[Nat.zero_add]at h⊢;exact fun A x W hA hR J K hK=>h A x W hA hR J (depL G U (YW ae ho) hA J) K hK
 ·intro x W hR aa;obtain⟨h1,h2⟩:=endL (a0:=a0) U ac aa;rw[G]at h2;rw[h2];exact Z x W hR h1
theorem depG {sp:List Sp}{D:List Oper}{a0 A:Act}{x:Tmp→Value}{ds:List Tmp}{W:World}{o:Array Edge}(aa:D.filterMap (·.dst)=ds)(hl:D.map (·.dst)=sp.map Sp.dst)(ab: ∀e∈o,e.on<D.length)(hA:Za a0 x ds A)
  (X: ∀e∈o,Region.binds .any e=true→Q1 D (sp.map Sp.gs) x W e.on):QN sp A W o.toList:=by
 subst aa;refine zI _ fun e U hb=>?_
 have U:e∈o:=Array.mem_toList_iff.1 U;obtain⟨I,G⟩: ∃I,D[e.on]? =some I:=⟨_,List.getElem?_eq_getElem (ab e U)⟩;obtain⟨s,Y,V⟩:=qaa hl G;have Z:=X e U hb;rw[J8 Y G]at Z;refine jp (fun d u O=>?_) (fun d q O=>?_)
 ·rw[Y]at O;obtain rfl:=Option.some.inj O;have J:I.dst=some d:=V.symm;rw[hA.1 d (Jw G J)];have:qJ x I=x d:=by unfold qJ;rw[J]
  rw[←this];exact Z
 ·rw[Y]at O;obtain rfl:=Option.some.inj O;have J:I.dst=some d:=V.symm;rw[hA.1 d (Jw G J)];have:qJ x I=x d:=by unfold qJ;rw[J]
  rw[←this];exact Z
theorem endG {sp:List Sp}{D:List Oper}{a0:Act}{x:Tmp→Value}{W:World}(U:D.map (·.dst)=sp.map Sp.dst)
  (h:yj (fun i _=>Q1 D (sp.map Sp.gs) x W i) 0 D):qaU x W sp∧lay a0 x (D.filterMap (·.dst))=QA a0 x sp:=by
 have V: ∀(i:Nat) (s:Sp),sp[i]? =some s→ ∃o,o.dst=s.dst∧(match s.gs with| .own q=>q (qJ x o) W| .far ds q=>q (ds.map x) W):=fun i s I=>by
  have J:=congrArg (fun l:List (Option Tmp)=>l[i]?) U;simp only[List.getElem?_map,I,Option.map_some]at J
  cases ho:D[i]? with
  | none=>rw[ho]at J;cases J
  | some o=>
   rw[ho]at J;have G:=Yi h i o ho;rw[J8 I ho]at G;exact⟨o,by simpa using J,G⟩
 refine⟨jx fun i s I=>?_,qfq a0 U fun i d u I=>?_⟩
 ·obtain⟨o,O,G⟩:=V i s I
  cases s with
  | v d u=>trivial
  | p d q=>
   have:qJ x o=x d:=by unfold qJ;rw[O];rfl
   show q (x d) W
   rw[←this];exact G
  | s q=>exact G
  | f d ds q=>exact G
 ·obtain⟨o,O,G⟩:=V i _ I;have:qJ x o=x d:=by unfold qJ;rw[O];rfl
  rw[←this];exact G
def Sp.isOwn:Sp→Bool
 | .v _ _=>true
 | .p _ _=>true
 | _=>false
def qfh:List Sp→Nat→Nat→Bool
 | [],_,_=>true
 | x::l,n,s=>(n==s||x.isOwn)&&qfh l (n+1) s
theorem qc6: ∀{sp:List Sp} {n s:Nat},qfh sp n s=true→ ∀{j:Nat} {x:Sp},sp[j]? =some x→n+j≠s→x.isOwn=true
 | [],_,_,_,j,x,h,_=>by simp at h
 | y::_,n,s,h,0,x,hx,hne=>by
  simp only[qfh,Bool.and_eq_true,Bool.or_eq_true,beq_iff_eq]at h;simp at hx;subst hx
  exact h.1.resolve_left (by simpa using hne)
 | y::l,n,s,h,j+1,x,hx,hne=>by
  simp only[qfh,Bool.and_eq_true]at h;exact qc6 (sp:=l) h.2 (by simpa using hx) (by omega)
def qh5 (P:Program)(l:List Oper)(ds:List Tmp)(a0:Act)(Rb:Bool→World→Prop)(s:Nat)(sp:List Sp)(i:Nat)(Q:Exit→Act→World→Prop)(o:Oper):Prop:=
 ∀(A:Act) (x:Tmp→Value) (W:World) (f:Bool),Za a0 x ds A→Rb f W→(jV l s i=true→f=false)→(∀e∈o.after,Region.binds .any e=true→Q1 l (sp.map Sp.gs) x W e.on)→QN sp A W o.after.toList→
  ∀K:Act→World→Prop,(∀v W',Below W.heap.size W W'→qb3 (sp.map Sp.gs) i v W'→K (A.put o.dst v) W')→Oper.wp P o A W K Q
theorem yC {P:Program}{id:Nat}{w:World}{Q:Exit→Act→World→Prop}{a0:Act}{L l tail:List Oper}{n:Nat}{ds:List Tmp}{o:Oper}(I:Bool→World→Prop)(s:Nat)(sp:List Sp)(ai:qaH sp)(hw:I false w.drew)(al: ∀f W W',I f W→Below W.heap.size W W'→I f W')
  (Y:yj (fun i o=>i=s∨qh5 P l ds a0 I s sp i (qV P l tail Q) o) 0 l)
  (U:qh4 P l ds a0 I s (sp.map Sp.gs) (qV P l tail Q) o)
  (ab: ∀(x:Tmp→Value) (W:World),I true W→qaU x W sp→qV P l tail Q .normal (QA a0 x sp) W)
  (hi:L.take n=l:=by dsimp only[List.take]) (ht:L.drop n=tail:=by dsimp only[List.drop]) (af:ZD .any l tail=true:=by kernel_rfl) (ak:sp.filterMap Sp.dst=ds:=by dsimp only[List.filterMap,Sp.dst]) (V:l.map (·.dst)=sp.map Sp.dst:=by rfl)
  (ag:(ds.all fun d=>decide (d<a0.tmps.size))=true:=by rfl) (ae:ds.Nodup:=by decide) (X:yV l=true:=by kernel_rfl) (hg:(l.all fun o=>o.guard.isNone)=true:=by rfl) (ah:JW l (sp.map Sp.gs)=true:=by kernel_rfl)
  (ho:l[s]? =some o:=by rfl) (ac:qfh sp 0 s=true:=by rfl) (aj:qad l=true:=by kernel_rfl) (hm:P.follows .mixedOrders=true:=by kernel_rfl):
  (Code.region id L.toArray true).wp P Q a0 w:=by
 have G:l.filterMap (·.dst)=ds:=(Ya V).trans ak;have hs:s<l.length:=(List.getElem?_eq_some_iff.1 ho).1;refine qa2 hi ht af I s ds (sp.map Sp.gs) G ag ae X hg ah hs hm hw al (zW ai) ?_ ?_
 ·refine z8 l 0 l (fun i o' J h=>?_) Y;rw[Nat.zero_add]at h⊢;by_cases D:i=s
  ·subst D;rw[ho]at J;obtain rfl:=Option.some.inj J;exact .inr ⟨rfl,U⟩
  ·refine .inl ⟨?_,fun A x W f hA hR hf O K hK=>h.resolve_left D A x W f hA hR hf O (depG G V (YW aj J) hA O) K hK⟩;obtain⟨x,hx,aa⟩:=qaa V J;have Z:=qc6 ac hx (by rw[Nat.zero_add];exact D);unfold qb4;rw[List.getElem?_map,hx]
   cases x with
   | v d u=>simp[Sp.gs,D,←aa,Sp.dst]
   | p d q=>simp[Sp.gs,D,←aa,Sp.dst]
   | s q=>cases Z
   | f d ds q=>cases Z
 ·intro x W hR ad;obtain⟨h1,h2⟩:=endG (a0:=a0) V ad;rw[G]at h2;rw[h2];exact ab x W hR h1
theorem Q9 {P:Program}{id:Nat}{w:World}{Q:Exit→Act→World→Prop}{a0:Act}{l:List Oper}{ds:List Tmp}{o:Oper}(q:Bool→World→Prop)(s:Nat)(sp:List Sp)(Y:qaH sp)(hw:q false w.drew)(ab: ∀f W W',q f W→Below W.heap.size W W'→q f W')
  (I:yj (fun i o=>i=s∨qh5 P l ds a0 q s sp i Q o) 0 l)
  (D:qh4 P l ds a0 q s (sp.map Sp.gs) Q o)
  (J: ∀(x:Tmp→Value) (W:World),q true W→qaU x W sp→Q .normal (QA a0 x sp) W)
  (aa:sp.filterMap Sp.dst=ds:=by dsimp only[List.filterMap,Sp.dst]) (hl:l.map (·.dst)=sp.map Sp.dst:=by rfl)
  (X:(ds.all fun d=>decide (d<a0.tmps.size))=true:=by rfl) (U:ds.Nodup:=by decide) (G:yV l=true:=by kernel_rfl) (hg:(l.all fun o=>o.guard.isNone)=true:=by rfl) (V:JW l (sp.map Sp.gs)=true:=by kernel_rfl)
  (ho:l[s]? =some o:=by rfl) (O:qfh sp 0 s=true:=by rfl) (Z:qad l=true:=by kernel_rfl) (hm:P.follows .mixedOrders=true:=by kernel_rfl):
  (Code.region id l.toArray true).wp P Q a0 w:=
 yC (n:=l.length) (l:=l) (tail:=[]) q s sp Y hw ab I D J (by simp) (by simp) rfl aa hl X U G hg V ho O Z hm
end Go.Proofs.YthjoojnlnlmljaaGreat
