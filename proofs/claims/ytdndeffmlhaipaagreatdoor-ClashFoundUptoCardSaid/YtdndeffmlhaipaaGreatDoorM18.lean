/- A region that draws its order, in a world that grows only: each operation's slot says what it must, in whatever order; then a tail of operations of which each waits for all before it. No condition. -/
import Derived.Test.YtdndeffmlhaipaaGreatDoorM13
import Derived.Test.YtdndeffmlhaipaaGreatDoorM08
import Derived.Test.YtdndeffmlhaipaaGreatDoorM02
import Derived.Below
import Derived.Laws.Tables
set_option linter.all false
set_option maxRecDepth 100000
set_option maxHeartbeats 8000000
namespace Go.Proofs.YtdndeffmlhaipaaGreatDoor
open Go Go.RowKit
theorem jj {P:Program}{o:Oper}{a:Act}{w:World}{K:Act→World→Prop}{Q:Exit→Act→World→Prop}(t:TypeId)(parts:Array (Nat×Operand))(ho:o.op= .build t parts)(cells:Array Value)
  (hf:P.built t (parts.map fun(i,x)=>(i,a.eval x)).toList=some cells) (h:K (a.put o.dst (.agg cells)) w):o.wp P a w K Q:=
 wp_build t parts ho (by rw[hf];rfl) (by rw[hf];exact h)
def QA (p:Nat→Oper→Prop):Nat→List Oper→Prop
 | _,[]=>True
 | n,o::l=>p n o∧QA p (n+1) l
theorem qn {p:Nat→Oper→Prop}{n:Nat}{o:Oper}{l:List Oper}(h:p n o)(h':QA p (n+1) l):QA p n (o::l):=⟨h,h'⟩
theorem qt {p:Nat→Oper→Prop}{n:Nat}:QA p n []:=trivial
theorem qbn {p:Nat→Oper→Prop}: ∀(l:List Oper) (n:Nat),QA p n l→ ∀i o,l[i]? =some o→p (n+i) o
 | [],_,_,i,o,hi=>by simp at hi
 | _::_,n,h,0,o,hi=>by simp at hi;subst hi;exact h.1
 | _::l,n,h,i+1,o,hi=>by
  have:=qbn l (n+1) h.2 i o (by simpa using hi)
  rw[show n+(i+1)=n+1+i by omega];exact this
theorem yp {p:Nat→Oper→Prop}{l:List Oper}(h:QA p 0 l): ∀i o,l[i]? =some o→p i o:=fun i o hi=>by
 have:=qbn l 0 h i o hi
 rwa[Nat.zero_add]at this
def qV (gs:List (Value→World→Prop))(i:Nat)(v:Value)(W:World):Prop:=match gs[i]? with
 | some g=>g v W
 | none=>True
def qcU:List (Value→World→Prop)→Prop
 | []=>True
 | g::gs=>(∀v W W',g v W→Below W.heap.size W W'→g v W')∧qcU gs
theorem Jm: ∀{gs:List (Value→World→Prop)},qcU gs→ ∀{i:Nat} {v:Value} {W W':World},qV gs i v W→Below W.heap.size W W'→qV gs i v W'
 | [],_,i,v,W,W',_,_=>by unfold qV;simp
 | g::gs,h,0,v,W,W',hg,hb=>h.1 v W W' hg hb
 | g::gs,h,i+1,v,W,W',hg,hb=>by
  have:=Jm (gs:=gs) h.2 (i:=i) (v:=v) (W:=W) (W':=W') (by unfold qV at hg⊢;simpa using hg) hb
  unfold qV at this⊢;simpa using this
def ZA (md:Region.Mode):List Oper→List Oper→Bool
 | _,[]=>true
 | init,o::t=>Z5 md init o init.length&&qao md init&&ZA md (init++[o]) t
def qH (P:Program):List Oper→List Oper→(Exit→Act→World→Prop)→Exit→Act→World→Prop
 | _,[],Q=>Q
 | init,o::t,Q=>ZV P (init++[o]).toArray o (qH P (init++[o]) t Q)
theorem qh {P:Program}{init t:List Oper}{o:Oper}{Q:Exit→Act→World→Prop}{a:Act}{w:World}(h:wpList P (init++[o]).toArray (qH P (init++[o]) t Q) [o] a w):qH P init (o::t) Q .normal a w:=h
theorem qo {P:Program}{init:List Oper}{Q:Exit→Act→World→Prop}{a:Act}{w:World}(h:Q .normal a w):qH P init [] Q .normal a w:=h
theorem YI {P:Program}{md:Region.Mode}{Q:Exit→Act→World→Prop}{a:Act}{w:World}: ∀(tail init:List Oper),ZA md init tail=true→
  wpAny P md init.toArray (qH P init tail Q) init.length (Array.replicate init.length false) a w→wpAny P md (init++tail).toArray Q (init.length+tail.length) (Array.replicate (init.length+tail.length) false) a w
 | [],init,_,h=>by simpa [qH] using h
 | o::t,init,hb,h=>by
  simp only[ZA,Bool.and_eq_true]at hb;have h1:=YI (P:=P) (Q:=Q) (a:=a) (w:=w) t (init++[o]) hb.2 (by
   have e1:(init++[o]).toArray=init.toArray.push o:=by simp
   have e2:(init++[o]).length=init.length+1:=by simp
   have e3:Array.replicate (init.length+1) false=(Array.replicate init.length false).push false:=by
    rw[Array.replicate_succ]
   rw[e2,e3,e1];refine Zi (by simpa using hb.1.1) (by simpa using hb.1.2) _ _ _ _ (by simp) ?_ (by rw[←e1];exact h);intro j oj hoj hlj;exfalso
   have hjs:=(Ai hoj).1;simp only[List.size_toArray]at hjs;rw[Lh,Array.getElem?_replicate,if_pos hjs]at hlj
   cases hlj)
  have e1:init++[o]++t=init++o::t:=by simp
  have e2:(init++[o]).length+t.length=init.length+(o::t).length:=by simp;omega
  rw[e1,e2]at h1;exact h1
theorem qbf (a0:Act)(x:Tmp→Value): ∀ds,(lay a0 x ds).tmps.size=a0.tmps.size
 | []=>rfl
 | d::ds=>by
  show((lay a0 x ds).put (some d) (x d)).tmps.size=_
  simp[Act.put,qbf a0 x ds]
theorem qcL (a0:Act)(x:Tmp→Value){d:Tmp}: ∀ds,d∉ds→(lay a0 x ds).tmps.getD d undef=a0.tmps.getD d undef
 | [],_=>rfl
 | e::ds,h=>by
  show((lay a0 x ds).put (some e) (x e)).tmps.getD d undef=_
  have h1:e≠d:=fun h2=>h (by simp[h2])
  rw[←qcL a0 x ds (fun h2=>h (by simp[h2]))];simp[Act.put,Lh,Array.getElem?_setIfInBounds,h1]
theorem qef (a0:Act)(x:Tmp→Value){d:Tmp}(hd:d<a0.tmps.size): ∀ds,d∈ds→(lay a0 x ds).tmps.getD d undef=x d
 | e::ds,h=>by
  show((lay a0 x ds).put (some e) (x e)).tmps.getD d undef=_
  by_cases h1:e=d
  ·subst h1;have hs:e<(lay a0 x ds).tmps.size:=by rw[qbf];exact hd
   simp[Act.put,Lh,Array.getElem?_setIfInBounds,hs]
  ·have h2:d∈ds:=by
    rcases List.mem_cons.1 h with h2|h2
    ·exact absurd h2.symm h1
    ·exact h2
   rw[←qef a0 x hd ds h2];simp[Act.put,Lh,Array.getElem?_setIfInBounds,h1]
def ZX (a0:Act)(x:Tmp→Value)(ds:List Tmp)(A:Act):Prop:=(∀d,d∈ds→A.tmps.getD d undef=x d)∧ ∀d,d∉ds→A.tmps.getD d undef=a0.tmps.getD d undef
theorem ZK {a0:Act}{x:Tmp→Value}{ds:List Tmp}(h: ∀d∈ds,d<a0.tmps.size):ZX a0 x ds (lay a0 x ds):=⟨fun d hd=>qef a0 x (h d hd) ds hd,fun d hd=>qcL a0 x ds hd⟩
def StepO (P:Program)(init:List Oper)(ds:List Tmp)(a0:Act)(B:Nat)(w0:World)(gs:List (Value→World→Prop))(Q:Exit→Act→World→Prop)(i:Nat)(o:Oper):Prop:=
 ∀(A:Act) (x:Tmp→Value) (W:World),ZX a0 x ds A→Below B w0 W→B≤W.heap.size→(∀e∈o.after,Region.binds .any e=true→ ∀oe,init[e.on]? =some oe→qV gs e.on (qC x oe) W)→
  ∀K:Act→World→Prop,(∀v W',Below W.heap.size W W'→qV gs i v W'→K (A.put o.dst v) W')→Oper.wp P o A W K Q
theorem jC {P:Program}{id:Nat}{w w0:World}{Q:Exit→Act→World→Prop}{a0:Act}{B:Nat}{l init tail:List Oper}{n:Nat}(ds:List Tmp)(gs:List (Value→World→Prop))(hi:l.take n=init)(ht:l.drop n=tail)(hds:init.filterMap (·.dst)=ds)(hsz:(ds.all fun d=>decide (d<a0.tmps.size))=true)(hnd:ds.Nodup)(hback:yr init=true)
  (hg:(init.all fun o=>o.guard.isNone&&o.dst.isSome)=true) (hb:ZA .any init tail=true) (hm:P.follows .mixedOrders=true) (hw:Below B w0 w.drew) (hB:B≤w0.heap.size) (hst:qcU gs)
  (hstep:QA (StepO P init ds a0 B w0 gs (qH P init tail Q)) 0 init)
  (hend: ∀(x:Tmp→Value) (W:World),Below B w0 W→B≤W.heap.size→QA (fun i o=>qV gs i (qC x o) W) 0 init→qH P init tail Q .normal (lay a0 x ds) W):
  (Code.region id l.toArray true).wp P Q a0 w:=by
 have hl:l=init++tail:=by rw[←hi,←ht];exact(List.take_append_drop _ _).symm
 clear hi ht;subst hl;subst hds;have hall:=fun o ho=>List.all_eq_true.1 hg o ho
 refine wp_region_any hm ?_;have e:(init++tail).toArray.size=init.length+tail.length:=by simp
 rw[e];refine YI tail init hb ?_;have H:=ZY (P:=P) (ops:=init) (a0:=a0) (Q:=qH P init tail Q) (R:=fun W=>Below B w0 W) (Good:=qV gs) hnd hback (fun i o hi x W hR hdep K hK=>by
   have ho:=hall o (List.mem_of_getElem? hi);simp only[Bool.and_eq_true,Option.isNone_iff_eq_none]at ho;have hBW:B≤W.heap.size:=Nat.le_trans hB hR.size;rw[if_pos (by simp[Region.wanted,ho.1])];exact yp hstep i o hi _ x W (ZK (fun d hd=>of_decide_eq_true (List.all_eq_true.1 hsz d hd))) hR hBW hdep K (fun v W' hbW hgv=>hK v W' (hR.trans (hbW.mono hBW)) (fun j u _ hj=>Jm hst hj hbW) hgv))
  (fun i o v W hi hd=>by
   have ho:=hall o (List.mem_of_getElem? hi);rw[hd]at ho;simp at ho)
  (fun x W hR hG=>hend x W hR (Nat.le_trans hB hR.size) (by
   have: ∀(l:List Oper) (n:Nat),(∀i o,l[i]? =some o→qV gs (n+i) (qC x o) W)→QA (fun i o=>qV gs i (qC x o) W) n l:=by
    intro l;induction l with
    | nil=>intro n _;trivial
    | cons o l ih=>
     intro n h;refine⟨by simpa using h 0 o (by simp),ih (n+1) (fun i o' hi=>?_)⟩;have:=h (i+1) o' (by simpa using hi)
     rw[show n+1+i=n+(i+1) by omega];exact this
   exact this init 0 (fun i o hi=>by rw[Nat.zero_add];exact hG i o hi)))
  init.length (Array.replicate init.length false) (fun d=>a0.tmps.getD d undef) w.drew (by simp) (by
   simp only[Array.toList_replicate,Yx,List.countP_replicate];simp) hw (fun i o hi hl=>by
   have hlt:i<init.length:=(List.getElem?_eq_some_iff.1 hi).1;simp[Lh,hlt]at hl)
 rw[ZL]at H;exact H
def StepR (P:Program)(init:List Oper)(ds:List Tmp)(a0:Act)(R:World→Prop)(gs:List (Value→World→Prop))(Q:Exit→Act→World→Prop)(i:Nat)(o:Oper):Prop:=
 ∀(A:Act) (x:Tmp→Value) (W:World),ZX a0 x ds A→R W→(∀e∈o.after,Region.binds .any e=true→ ∀oe,init[e.on]? =some oe→qV gs e.on (qC x oe) W)→
  ∀K:Act→World→Prop,(∀v W',R W'→(∀j u,j≠i→qV gs j u W→qV gs j u W')→qV gs i v W'→K (A.put o.dst v) W')→Oper.wp P o A W K Q
theorem JJ {P:Program}{id:Nat}{w:World}{Q:Exit→Act→World→Prop}{a0:Act}{l init tail:List Oper}{n:Nat}(R:World→Prop)(ds:List Tmp)(gs:List (Value→World→Prop))(hi:l.take n=init)(ht:l.drop n=tail)(hds:init.filterMap (·.dst)=ds)(hsz:(ds.all fun d=>decide (d<a0.tmps.size))=true)(hnd:ds.Nodup)(hback:yr init=true)
  (hg:(init.all fun o=>o.guard.isNone)=true) (hb:ZA .any init tail=true) (hm:P.follows .mixedOrders=true) (hw:R w.drew)
  (hgn:QA (fun i o=>o.dst=none→ ∀v W,qV gs i v W→qV gs i undef W) 0 init)
  (hstep:QA (StepR P init ds a0 R gs (qH P init tail Q)) 0 init)
  (hend: ∀(x:Tmp→Value) (W:World),R W→QA (fun i o=>qV gs i (qC x o) W) 0 init→qH P init tail Q .normal (lay a0 x ds) W):
  (Code.region id l.toArray true).wp P Q a0 w:=by
 have hl:l=init++tail:=by rw[←hi,←ht];exact(List.take_append_drop _ _).symm
 clear hi ht;subst hl;subst hds;have hall:=fun o ho=>List.all_eq_true.1 hg o ho
 refine wp_region_any hm ?_;have e:(init++tail).toArray.size=init.length+tail.length:=by simp
 rw[e];refine YI tail init hb ?_;have H:=ZY (P:=P) (ops:=init) (a0:=a0) (Q:=qH P init tail Q) (R:=R) (Good:=qV gs) hnd hback (fun i o hi x W hR hdep K hK=>by
   have ho:=hall o (List.mem_of_getElem? hi);simp only[Option.isNone_iff_eq_none]at ho;rw[if_pos (by simp[Region.wanted,ho])];exact yp hstep i o hi _ x W (ZK (fun d hd=>of_decide_eq_true (List.all_eq_true.1 hsz d hd))) hR hdep K hK)
  (fun i o v W hi hd hgv=>yp hgn i o hi hd v W hgv)
  (fun x W hR hG=>hend x W hR (by
   have: ∀(l:List Oper) (n:Nat),(∀i o,l[i]? =some o→qV gs (n+i) (qC x o) W)→QA (fun i o=>qV gs i (qC x o) W) n l:=by
    intro l;induction l with
    | nil=>intro n _;trivial
    | cons o l ih=>
     intro n h;refine⟨by simpa using h 0 o (by simp),ih (n+1) (fun i o' hi=>?_)⟩;have:=h (i+1) o' (by simpa using hi)
     rw[show n+1+i=n+(i+1) by omega];exact this
   exact this init 0 (fun i o hi=>by rw[Nat.zero_add];exact hG i o hi)))
  init.length (Array.replicate init.length false) (fun d=>a0.tmps.getD d undef) w.drew (by simp) (by
   simp only[Array.toList_replicate,Yx,List.countP_replicate];simp) hw (fun i o hi hl=>by
   have hlt:i<init.length:=(List.getElem?_eq_some_iff.1 hi).1;simp[Lh,hlt]at hl)
 rw[ZL]at H;exact H
theorem BR {B:Nat}{w:World}:Below B w w:=Below.refl _ _
theorem kW {g:Value→Prop}: ∀(W W':World),Below W.heap.size W W'→ ∀v,g v→g v:=fun _ _ _ _ h=>h
theorem gv {a0 A:Act}{x:Tmp→Value}{ds:List Tmp}{gs:List (Value→World→Prop)}{init:List Oper}{W:World}{after:Array Edge}{v:Value}{oe:Oper}(hA:ZX a0 x ds A)
    (hdep: ∀e∈after,Region.binds .any e=true→ ∀oe,init[e.on]? =some oe→qV gs e.on (qC x oe) W) (i s:Nat)
    (h1:s∈ds:=by decide) (h2:(⟨i,.data⟩:Edge)∈after:=by simp) (h3:init[i]? =some oe:=by rfl) (h4:qC x oe=x s:=by rfl) (h5:qV gs i=(fun u _=>u=v):=by rfl):A.tmps.getD s undef=v:=by
  have:=hdep _ h2 rfl oe h3
  rw[h5,h4]at this;exact(hA.1 s h1).trans this
def setD (D:Nat→Bool)(i:Nat):Nat→Bool:=fun j=>D j||j==i
def YJ (x:Tmp→Value)(d:Option Tmp)(v:Value):Tmp→Value:=match d with|some d=>upd x d v|none=>x
def qcW (ops:List Oper)(D:Nat→Bool):Prop:= ∀j oj,ops[j]? =some oj→D j=true→ ∀e∈oj.after,Region.binds .any e=true→D e.on=true
theorem qee (a0:Act)(x:Tmp→Value){ops:List Oper}(hnd:(ops.filterMap (·.dst)).Nodup){i:Nat}{o:Oper}(hi:ops[i]? =some o)(v:Value):
  (lay a0 x (ops.filterMap (·.dst))).put o.dst v=lay a0 (YJ x o.dst v) (ops.filterMap (·.dst)):=by
 cases hd:o.dst with
 | none=>rfl
 | some d=>exact qaJ a0 x d v _ hnd (List.mem_filterMap.2 ⟨o,List.mem_of_getElem? hi,hd⟩)
section
variable {P:Program} {ops:List Oper} {a0:Act} {Q:Exit→Act→World→Prop} {R:(Nat→Bool)→(Tmp→Value)→World→Prop}
theorem qcZ (hnd:(ops.filterMap (·.dst)).Nodup)(hback:yr ops=true)
  (hstep: ∀(i:Nat) (o:Oper),ops[i]? =some o→ ∀(D:Nat→Bool) (x:Tmp→Value) (W:World),R D x W→D i=false→(∀e∈o.after,Region.binds .any e=true→D e.on=true)→qcW ops D→
   ∀K:Act→World→Prop,(∀v W',R (setD D i) (YJ x o.dst v) W'→K ((lay a0 x (ops.filterMap (·.dst))).put o.dst v) W')→
   if Region.wanted o (yielded ops.toArray (lay a0 x (ops.filterMap (·.dst))).tmps)=true then Oper.wp P o (lay a0 x (ops.filterMap (·.dst))) W K Q else K ((lay a0 x (ops.filterMap (·.dst))).put o.dst undef) W)
  (hend: ∀(D:Nat→Bool) (x:Tmp→Value) (W:World),R D x W→(∀i,D i=true)→Q .normal (lay a0 x (ops.filterMap (·.dst))) W):
  ∀(fuel:Nat) (listed:Array Bool) (x:Tmp→Value) (W:World),listed.size=ops.length→Yx listed.toList≤fuel→R (fun j=>listed.getD j true) x W→qcW ops (fun j=>listed.getD j true)→
   wpAny P .any ops.toArray Q fuel listed (lay a0 x (ops.filterMap (·.dst))) W:=by
 intro fuel;induction fuel with
 | zero=>
  intro listed x W hs ht hR hC;have hall: ∀i,listed.getD i true=true:=fun i=>by
   have:=JW (l:=listed.toList) (by omega) i
   simpa [Lh,Lg] using this
  refine⟨?_,hend _ x W hR hall⟩;rw[List.eq_nil_iff_forall_not_mem];intro j hj;have:=(mem_ready.1 hj).1
  rw[hall j]at this
  cases this
 | succ fuel ih=>
  intro listed x W hs ht hR hC;refine⟨fun hr=>hend _ x W hR ?_,fun i hi=>?_⟩
  ·intro j;show listed.getD j true=true
   induction j using Nat.strongRecOn with
   | _ j ihj=>
    cases hl:listed.getD j true with
    | true=>rfl
    | false=>
     have hj:j<listed.size:=by
      rw[Lh]at hl
      cases e:listed[j]? with
      | none=>rw[e]at hl;cases hl
      | some b=>exact(Ai e).1
     obtain⟨oj,ho⟩: ∃oj,ops[j]? =some oj:=⟨ops[j]'(by omega),by simp[show j<ops.length by omega]⟩;have hm:j∈Region.ready .any ops.toArray listed:=mem_ready.2 ⟨hl,oj,by simpa using ho,fun e he hb=>by
      have hlt:=(QR hback ho).1 e he hb;have h2:=ihj e.on hlt;have hlt':e.on<listed.size:=by omega
      simp only[Lh,Array.getElem?_eq_getElem hlt',Option.getD_some]at h2⊢;exact h2⟩
     rw[hr]at hm;cases hm
  ·obtain⟨hun,o,ho,hdep⟩:=mem_ready.1 hi;have ho':ops[i]? =some o:=by simpa using ho
   have hi':i<listed.size:=by
    have:=(List.getElem?_eq_some_iff.1 ho').1
    omega
   have hun':listed.toList[i]? =some false:=by
    rw[Lh,Array.getElem?_eq_getElem hi',Option.getD_some]at hun;rw[Array.getElem?_toList,Array.getElem?_eq_getElem hi',hun]
   have htodo:Yx (listed.setIfInBounds i true).toList≤fuel:=by
    have:=j0 listed.toList i hun'
    rw[Array.toList_setIfInBounds];omega
   have hdep': ∀e∈o.after,Region.binds .any e=true→listed.getD e.on true=true:=fun e he hb=>by
    have h6:=hdep e he hb;rw[Lh]at h6⊢
    cases e':listed[e.on]? with
    | none=>rfl
    | some b=>rw[e']at h6;exact h6
   have hset:(fun j=>(listed.setIfInBounds i true).getD j true)=setD (fun j=>listed.getD j true) i:=by
    funext j
    simp only[setD,Lh,Array.getElem?_setIfInBounds];by_cases e:i=j
    ·subst e;simp[hi']
    ·simp[e,Ne.symm e]
   refine wpOp_step ho fun K hK=>hstep i o ho' _ x W hR hun hdep' hC K fun v W' hR'=>?_
   rw[qee a0 x hnd ho' v];refine hK _ _ ?_;refine ih _ (YJ x o.dst v) W' (by simpa using hs) htodo (by rw[hset];exact hR') ?_;intro j oj hoj hlj e he hb;rw[hset]at hlj⊢;simp only[setD,Bool.or_eq_true,beq_iff_eq]at hlj⊢;rcases hlj with hlj|rfl
   ·exact .inl (hC j oj hoj hlj e he hb)
   ·obtain rfl:o=oj:=Option.some.inj (ho'.symm.trans hoj);exact .inl (hdep' e he hb)
end
inductive GS where
 | own (q:Value→World→Prop)
 | far (ds:List Tmp) (q:List Value→World→Prop)
def yG (l:List Oper)(gs:List GS)(x:Tmp→Value)(W:World)(j:Nat):Prop:=match gs[j]?,l[j]? with
 | some (.own q),some o=>q (qC x o) W
 | some (.far ds q),some _=>q (ds.map x) W
 | _,_=>True
def GS.stay:GS→World→World→Prop
 | .own q,W,W'=> ∀v,q v W→q v W'
 | .far _ q,W,W'=> ∀v,q v W→q v W'
def qcV:List GS→Prop
 | []=>True
 | g::gs=>(∀W W',Below W.heap.size W W'→g.stay W W')∧qcV gs
theorem qa2: ∀{gs:List GS},qcV gs→ ∀{j:Nat} {g:GS},gs[j]? =some g→ ∀W W',Below W.heap.size W W'→g.stay W W'
 | [],_,j,g,h,_,_,_=>by simp at h
 | _::_,hs,0,g,h,W,W',hb=>by simp at h;subst h;exact hs.1 W W' hb
 | _::gs,hs,j+1,g,h,W,W',hb=>qa2 (gs:=gs) hs.2 (by simpa using h) W W' hb
def qaV (W W':World)(s:Nat):Nat→List GS→Prop
 | _,[]=>True
 | n,g::gs=>(n=s∨g.stay W W')∧qaV W W' s (n+1) gs
theorem j5 {W W':World}{s:Nat}: ∀{gs:List GS} {n:Nat},qaV W W' s n gs→ ∀{j:Nat} {g:GS},gs[j]? =some g→n+j≠s→g.stay W W'
 | [],_,_,j,g,h,_=>by simp at h
 | _::_,n,hs,0,g,h,hne=>by
  simp at h;subst h
  rcases hs.1 with h1|h1
  ·exact absurd h1 (by simpa using hne)
  ·exact h1
 | _::gs,n,hs,j+1,g,h,hne=>j5 (gs:=gs) hs.2 (by simpa using h) (by omega)
def qay (l:List Oper)(gs:List GS):Bool:=(List.range l.length).all fun j=>match l[j]?,gs[j]? with
 | some oj,some (.far ds _)=>ds.all fun d=>oj.after.any fun e=>Region.binds .any e&&(match l[e.on]? with|some oe=>oe.dst==some d|none=>false)
 | _,_=>true
theorem jo {l:List Oper}{gs:List GS}(h:qay l gs=true){j:Nat}{oj:Oper}{ds:List Tmp}{q:List Value→World→Prop}(hj:l[j]? =some oj)(hg:gs[j]? =some (.far ds q)){d:Tmp}(hd:d∈ds):
  ∃e∈oj.after,Region.binds .any e=true∧ ∃oe,l[e.on]? =some oe∧oe.dst=some d:=by
 have hlt:j<l.length:=(List.getElem?_eq_some_iff.1 hj).1;have h1:=List.all_eq_true.1 h j (List.mem_range.2 hlt);rw[hj,hg]at h1;obtain⟨e,he,h2⟩:=Array.any_eq_true'.1 (List.all_eq_true.1 h1 d hd);rw[Bool.and_eq_true]at h2;refine⟨e,he,h2.1,?_⟩
 cases ho:l[e.on]? with
 | none=>rw[ho]at h2;simp at h2
 | some oe=>rw[ho]at h2;exact⟨oe,rfl,by simpa using h2.2⟩
def qfh (gs:List GS)(s i:Nat)(o:Oper):Bool:=(match gs[i]? with|some (.far _ _)=>false|_=>true)&&i != s&&o.dst.isSome
def qfg (gs:List GS)(i:Nat)(v:Value)(W:World):Prop:=match gs[i]? with|some (.own q)=>q v W|_=>True
def atG (gs:List GS)(i:Nat)(x:Tmp→Value)(v:Value)(W:World):Prop:=match gs[i]? with|some (.far ds q)=>q (ds.map x) W|some (.own q)=>q v W|none=>True
def StepG (P:Program)(l:List Oper)(ds:List Tmp)(a0:Act)(Rb:Bool→World→Prop)(s:Nat)(gs:List GS)(Q:Exit→Act→World→Prop)(i:Nat)(o:Oper):Prop:=
 ∀(A:Act) (x:Tmp→Value) (W:World) (f:Bool),ZX a0 x ds A→Rb f W→(qav l s i=true→f=false)→(∀e∈o.after,Region.binds .any e=true→yG l gs x W e.on)→
  ∀K:Act→World→Prop,(∀v W',Below W.heap.size W W'→qfg gs i v W'→K (A.put o.dst v) W')→Oper.wp P o A W K Q
def qex (P:Program)(l:List Oper)(ds:List Tmp)(a0:Act)(Rb:Bool→World→Prop)(s:Nat)(gs:List GS)(Q:Exit→Act→World→Prop)(o:Oper):Prop:=
 ∀(A:Act) (x:Tmp→Value) (W:World),ZX a0 x ds A→Rb false W→(∀e∈o.after,Region.binds .any e=true→yG l gs x W e.on)→
  ∀K:Act→World→Prop,(∀v W',(o.dst=none→v=undef)→Rb true W'→qaV W W' s 0 gs→atG gs s x v W'→K (A.put o.dst v) W')→Oper.wp P o A W K Q
theorem qbZ {l:List Oper}(hback:yr l=true){i j:Nat}{o oj:Oper}(hi:l[i]? =some o)(hj:l[j]? =some oj)(hne:j≠i)(x:Tmp→Value)(v:Value):qC (YJ x o.dst v) oj=qC x oj:=by
 unfold qC YJ
 cases hd:o.dst with
 | none=>rfl
 | some d=>
  cases hd':oj.dst with
  | none=>rfl
  | some d'=>
   have:d'≠d:=fun e=>hne ((QR hback hi).2 j oj d hj hd (by rw[hd',e]))
   simp[upd,this]
theorem jV {P:Program}{id:Nat}{w:World}{Q:Exit→Act→World→Prop}{a0:Act}{L l tail:List Oper}{n:Nat}(hi:L.take n=l)(ht:L.drop n=tail)(htl:ZA .any l tail=true)(Rb:Bool→World→Prop)(s:Nat)(ds:List Tmp)(gs:List GS)(hds:l.filterMap (·.dst)=ds)(hsz:(ds.all fun d=>decide (d<a0.tmps.size))=true)(hnd:ds.Nodup)(hback:yr l=true)
  (hg:(l.all fun o=>o.guard.isNone)=true) (hsl:qay l gs=true) (hs:s<l.length) (hm:P.follows .mixedOrders=true) (hw:Rb false w.drew) (hRb: ∀f W W',Rb f W→Below W.heap.size W W'→Rb f W') (hst:qcV gs)
  (hstep:QA (fun i o=>(qfh gs s i o=true∧StepG P l ds a0 Rb s gs (qH P l tail Q) i o)∨(i=s∧qex P l ds a0 Rb s gs (qH P l tail Q) o)) 0 l)
  (hend: ∀(x:Tmp→Value) (W:World),Rb true W→QA (fun i _=>yG l gs x W i) 0 l→qH P l tail Q .normal (lay a0 x ds) W):
  (Code.region id L.toArray true).wp P Q a0 w:=by
 have hL:L=l++tail:=by rw[←hi,←ht];exact(List.take_append_drop _ _).symm
 clear hi ht;subst hL;subst hds;have hall:=fun o ho=>List.all_eq_true.1 hg o ho
 have hslt:=hs;refine wp_region_any hm ?_;have eL:(l++tail).toArray.size=l.length+tail.length:=by simp
 rw[eL];refine YI tail l htl ?_;have H:=qcZ (P:=P) (ops:=l) (a0:=a0) (Q:=qH P l tail Q) (R:=fun D x W=>Rb (D s) W∧ ∀i,D i=true→yG l gs x W i) hnd hback (fun i o hi D x W hR hDi hdep hC K hK=>by
   have ho:=hall o (List.mem_of_getElem? hi);rw[Option.isNone_iff_eq_none]at ho;rw[if_pos (by simp[Region.wanted,ho])];have hL:ZX a0 x (l.filterMap (·.dst)) (lay a0 x (l.filterMap (·.dst))):=ZK (fun d hd=>of_decide_eq_true (List.all_eq_true.1 hsz d hd));have hothers: ∀(j:Nat) (v:Value) (W':World),j≠i→D j=true→(∀g,gs[j]? =some g→g.stay W W')→yG l gs (YJ x o.dst v) W' j:=fun j v W' hji hDj hstay=>by
    have hgood:=hR.2 j hDj;unfold yG at hgood⊢
    cases hgj:gs[j]? with
    | none=>trivial
    | some g=>
     cases hlj:l[j]? with
     | none=>cases g<;>trivial
     | some oj=>
      rw[hgj,hlj]at hgood
      cases g with
      | own q=>
       show q (qC (YJ x o.dst v) oj) W'
       rw[qbZ hback hi hlj hji];exact hstay _ hgj _ hgood
      | far dl q=>
       show q (dl.map (YJ x o.dst v)) W'
       have e:dl.map (YJ x o.dst v)=dl.map x:=by
        refine List.map_congr_left fun d hd=>?_
        unfold YJ
        cases hdo:o.dst with
        | none=>rfl
        | some d'=>
         have:d≠d':=by
          rintro rfl
          obtain⟨e,he,hb,oe,hoe,hod⟩:=jo hsl hlj hgj hd;have h1:=(QR hback hi).2 e.on oe d hoe hdo hod;have h2:=hC j oj hlj hDj e he hb;rw[h1,hDi]at h2
          cases h2
         simp[upd,this]
       rw[e];exact hstay _ hgj _ hgood
   rcases yp hstep i o hi with⟨hown,hG⟩|⟨rfl,hS⟩
   ·unfold qfh at hown;simp only[Bool.and_eq_true,bne_iff_ne]at hown;refine hG _ x W (D s) hL hR.1 (fun hwt=>?_) (fun e he hb=>hR.2 _ (hdep e he hb)) K (fun v W' hbW hgv=>hK v W' ⟨?_,fun j hj=>?_⟩)
    ·obtain⟨o',ho',e,he,hb,hon⟩:=qa0 hwt
     cases hDs:D s with
     | false=>rfl
     | true=>
      have:=hC s o' ho' hDs e he hb
      rw[hon,hDi]at this;cases this
    ·have e:setD D i s=D s:=by
      have:(s==i)=false:=by rw[beq_eq_false_iff_ne];exact Ne.symm hown.1.2
      simp[setD,this]
     rw[e];exact hRb _ _ _ hR.1 hbW
    ·by_cases hji:j=i
     ·subst hji;unfold yG;unfold qfg at hgv
      cases hgj:gs[j]? with
      | none=>trivial
      | some g=>
       rw[hgj]at hgv hown;rw[hi]
       cases g with
       | own q=>
        obtain⟨d,hd⟩:=Option.isSome_iff_exists.1 hown.2;have:qC (YJ x o.dst v) o=v:=by unfold qC YJ;rw[hd];simp[upd]
        show q (qC (YJ x o.dst v) o) W'
        rw[this];exact hgv
       | far dl q=>simp at hown
     ·have hDj:D j=true:=by
       have hb:(j==i)=false:=by rw[beq_eq_false_iff_ne];exact hji
       simpa [setD,hb] using hj
      exact hothers j v W' hji hDj fun g hg'=>qa2 hst hg' W W' hbW
   ·refine hS _ x W hL (hDi▸hR.1) (fun e he hb=>hR.2 _ (hdep e he hb)) K (fun v W' hv hR' hstay hgv=>?_);refine hK v W' ⟨?_,fun j hj=>?_⟩
    ·have:setD D i i=true:=by simp[setD]
     rw[this];exact hR'
    ·by_cases hji:j=i
     ·subst hji;unfold yG;unfold atG at hgv
      cases hgj:gs[j]? with
      | none=>trivial
      | some g=>
       rw[hgj]at hgv;rw[hi]
       cases g with
       | own q=>
        show q (qC (YJ x o.dst v) o) W'
        have:qC (YJ x o.dst v) o=v:=by
         unfold qC YJ
         cases hd:o.dst with
         | none=>exact(hv hd).symm
         | some d=>simp[upd]
        rw[this];exact hgv
       | far dl q=>
        show q (dl.map (YJ x o.dst v)) W'
        have e:dl.map (YJ x o.dst v)=dl.map x:=by
         refine List.map_congr_left fun d hd=>?_
         unfold YJ
         cases hdo:o.dst with
         | none=>rfl
         | some d'=>
          have:d≠d':=by
           rintro rfl
           obtain⟨e,he,hb,oe,hoe,hod⟩:=jo hsl hi hgj hd;have h1:=(QR hback hi).2 e.on oe d hoe hdo hod;have h2:=(QR hback hi).1 e he hb;omega
          simp[upd,this]
        rw[e];exact hgv
     ·have hDj:D j=true:=by
       have hb:(j==i)=false:=by rw[beq_eq_false_iff_ne];exact hji
       simpa [setD,hb] using hj
      exact hothers j v W' hji hDj fun g hg'=>j5 hstay hg' (by simpa using hji))
  (fun D x W hR hD=>hend x W (hD s▸hR.1) (by
   have: ∀(m:List Oper) (n:Nat),QA (fun i _=>yG l gs x W i) n m:=by
    intro m;induction m with
    | nil=>intro n;trivial
    | cons o m ih=>intro n;exact⟨hR.2 n (hD n),ih (n+1)⟩
   exact this l 0))
  l.length (Array.replicate l.length false) (fun d=>a0.tmps.getD d undef) w.drew (by simp) (by
   simp only[Array.toList_replicate,Yx,List.countP_replicate];simp) ⟨by
    have:(Array.replicate l.length false).getD s true=false:=by simp[Lh,hslt]
    show Rb ((Array.replicate l.length false).getD s true) w.drew
    rw[this];exact hw,fun i hi=>by
    have hge: ¬i<l.length:=fun hlt=>by simp[Lh,hlt]at hi
    unfold yG;rw[List.getElem?_eq_none (l:=l) (by omega)]
    cases gs[i]? with
    | none=>trivial
    | some g=>cases g<;>trivial⟩ (fun j oj hoj hlj=>by
    have hlt:j<l.length:=(List.getElem?_eq_some_iff.1 hoj).1;simp[Lh,hlt]at hlj)
 rw[ZL]at H;exact H
theorem gw {a0 A:Act}{x:Tmp→Value}{ds:List Tmp}{gs:List GS}{l:List Oper}{W:World}{after:Array Edge}{v:Value}(hA:ZX a0 x ds A)
    (hdep: ∀e∈after,Region.binds .any e=true→yG l gs x W e.on) (i s:Nat)
    (h1:s∈ds:=by decide) (h2:(⟨i,.data⟩:Edge)∈after:=by simp) (h5:yG l gs x W i=(x s=v):=by rfl):A.tmps.getD s undef=v:=by
  have:=hdep _ h2 rfl
  rw[h5]at this;exact(hA.1 s h1).trans this
inductive Sp where
 | v (d:Tmp) (u:Value)
 | p (d:Tmp) (q:Value→World→Prop)
 | s (q:World→Prop)
 | f (d:Option Tmp) (ds:List Tmp) (q:List Value→World→Prop)
def Sp.dst:Sp→Option Tmp
 | .v d _=>some d
 | .p d _=>some d
 | .s _=>none
 | .f d _ _=>d
def Sp.says:Sp→Value→World→Prop
 | .v _ u=>fun y _=>y=u
 | .p _ q=>q
 | .s q=>fun _ W=>q W
 | .f _ _ _=>fun _ _=>True
def Sp.gs:Sp→GS
 | .v _ u=> .own fun y _=>y=u
 | .p _ q=> .own q
 | .s q=> .far [] fun _ W=>q W
 | .f _ ds q=> .far ds q
def QU:List Sp→Act→World→Nat→Prop
 | .v d u::_,A,_,0=>A.tmps.getD d undef=u
 | .p d q::_,A,W,0=>q (A.tmps.getD d undef) W
 | _::l,A,W,n+1=>QU l A W n
 | _,_,_,_=>True
def QI (sp:List Sp)(A:Act)(W:World):List Edge→Prop
 | []=>True
 | ⟨i,.data⟩::l=>QU sp A W i∧QI sp A W l
 | _::l=>QI sp A W l
def Qi (a0:Act)(x:Tmp→Value):List Sp→Act
 | []=>a0
 | .v d u::l=>(Qi a0 x l).put (some d) u
 | .p d _::l=>(Qi a0 x l).put (some d) (x d)
 | .s _::l=>Qi a0 x l
 | .f (some d) _ _::l=>(Qi a0 x l).put (some d) (x d)
 | .f none _ _::l=>Qi a0 x l
def JI (x:Tmp→Value)(W:World):List Sp→Prop
 | []=>True
 | .v _ _::l=>JI x W l
 | .p d q::l=>q (x d) W∧JI x W l
 | .s q::l=>q W∧JI x W l
 | .f _ ds q::l=>q (ds.map x) W∧JI x W l
def qbK:List Sp→Prop
 | []=>True
 | .p _ q::l=>(∀v W W',q v W→Below W.heap.size W W'→q v W')∧qbK l
 | .s q::l=>(∀W W',q W→Below W.heap.size W W'→q W')∧qbK l
 | _::l=>qbK l
def JG:List Sp→Prop
 | []=>True
 | .p _ q::l=>(∀W W',Below W.heap.size W W'→ ∀v,q v W→q v W')∧JG l
 | .s q::l=>(∀W W',Below W.heap.size W W'→q W→q W')∧JG l
 | .f _ _ q::l=>(∀W W',Below W.heap.size W W'→ ∀v,q v W→q v W')∧JG l
 | _::l=>JG l
theorem Y8: ∀{sp:List Sp},qbK sp→qcU (sp.map Sp.says)
 | [],_=>trivial
 | .v _ _::_,h=>⟨fun _ _ _ h _=>h,Y8 h⟩
 | .p _ _::_,h=>⟨h.1,Y8 h.2⟩
 | .s _::_,h=>⟨fun _ W W'=>h.1 W W',Y8 h.2⟩
 | .f _ _ _::_,h=>⟨fun _ _ _ h _=>h,Y8 h⟩
theorem Y9: ∀{sp:List Sp},JG sp→qcV (sp.map Sp.gs)
 | [],_=>trivial
 | .v _ _::_,h=>⟨fun _ _ _ _ h=>h,Y9 h⟩
 | .p _ _::_,h=>⟨h.1,Y9 h.2⟩
 | .s _::_,h=>⟨fun W W' hb _=>h.1 W W' hb,Y9 h.2⟩
 | .f _ _ _::_,h=>⟨h.1,Y9 h.2⟩
theorem Z8 {sp:List Sp}{i:Nat}{s:Sp}(h:sp[i]? =some s)(v:Value)(W:World):qV (sp.map Sp.says) i v W=s.says v W:=by
 unfold qV;rw[List.getElem?_map,h];rfl
theorem qag {sp:List Sp}{init:List Oper}{x:Tmp→Value}{i:Nat}{s:Sp}{o:Oper}(h:sp[i]? =some s)(ho:init[i]? =some o)(W:World):
  yG init (sp.map Sp.gs) x W i=match s.gs with| .own q=>q (qC x o) W| .far ds q=>q (ds.map x) W:=by
 unfold yG;rw[List.getElem?_map,h,ho]
 cases s<;>rfl
theorem qaP {sp:List Sp}{init:List Oper}(hl:init.map (·.dst)=sp.map Sp.dst){i:Nat}{o:Oper}(ho:init[i]? =some o): ∃s,sp[i]? =some s∧s.dst=o.dst:=by
 have h:=congrArg (fun l:List (Option Tmp)=>l[i]?) hl;simp only[List.getElem?_map,ho,Option.map_some]at h
 cases hs:sp[i]? with
 | none=>rw[hs]at h;cases h
 | some s=>rw[hs]at h;exact⟨s,rfl,by simpa using h.symm⟩
theorem zM: ∀{sp:List Sp} {A:Act} {W:World} {i:Nat},(∀d u,sp[i]? =some (.v d u)→A.tmps.getD d undef=u)→(∀d q,sp[i]? =some (.p d q)→q (A.tmps.getD d undef) W)→QU sp A W i
 | [],_,_,0,_,_=>trivial
 | [],_,_,_+1,_,_=>trivial
 | .v _ _::_,_,_,0,h,_=>h _ _ rfl
 | .p _ _::_,_,_,0,_,h=>h _ _ rfl
 | .s _::_,_,_,0,_,_=>trivial
 | .f _ _ _::_,_,_,0,_,_=>trivial
 | .v _ _::l,A,W,i+1,h,k=>zM (sp:=l) (A:=A) (W:=W) (i:=i) (fun d u e=>h d u (by simpa using e)) (fun d q e=>k d q (by simpa using e))
 | .p _ _::l,A,W,i+1,h,k=>zM (sp:=l) (A:=A) (W:=W) (i:=i) (fun d u e=>h d u (by simpa using e)) (fun d q e=>k d q (by simpa using e))
 | .s _::l,A,W,i+1,h,k=>zM (sp:=l) (A:=A) (W:=W) (i:=i) (fun d u e=>h d u (by simpa using e)) (fun d q e=>k d q (by simpa using e))
 | .f _ _ _::l,A,W,i+1,h,k=>zM (sp:=l) (A:=A) (W:=W) (i:=i) (fun d u e=>h d u (by simpa using e)) (fun d q e=>k d q (by simpa using e))
theorem Yl {sp:List Sp}{A:Act}{W:World}: ∀(l:List Edge),(∀e∈l,Region.binds .any e=true→QU sp A W e.on)→QI sp A W l
 | [],_=>trivial
 | ⟨_,.data⟩::l,h=>⟨h _ (List.mem_cons_self ..) rfl,Yl l (fun e he=>h e (List.mem_cons_of_mem _ he))⟩
 | ⟨_,.chain⟩::l,h=>Yl l (fun e he=>h e (List.mem_cons_of_mem _ he))
 | ⟨_,.guard⟩::l,h=>Yl l (fun e he=>h e (List.mem_cons_of_mem _ he))
 | ⟨_,.phase⟩::l,h=>Yl l (fun e he=>h e (List.mem_cons_of_mem _ he))
 | ⟨_,.textOnly _⟩::l,h=>Yl l (fun e he=>h e (List.mem_cons_of_mem _ he))
 | ⟨_,.gcOnly _⟩::l,h=>Yl l (fun e he=>h e (List.mem_cons_of_mem _ he))
theorem jS {init:List Oper}{i:Nat}{o:Oper}{d:Tmp}(h:init[i]? =some o)(hd:o.dst=some d):d∈init.filterMap (·.dst):=List.mem_filterMap.2 ⟨o,List.mem_of_getElem? h,hd⟩
theorem qcg (a0:Act){x:Tmp→Value}: ∀{sp:List Sp} {init:List Oper},init.map (·.dst)=sp.map Sp.dst→(∀(i:Nat) (d:Tmp) (u:Value),sp[i]? =some (.v d u)→x d=u)→lay a0 x (init.filterMap (·.dst))=Qi a0 x sp
 | [],[],_,_=>rfl
 | [],_::_,h,_=>by simp at h
 | _::_,[],h,_=>by simp at h
 | s::sp,o::init,h,hv=>by
  simp only[List.map_cons,List.cons.injEq]at h;have ih:=qcg a0 (x:=x) h.2 (fun i d u e=>hv (i+1) d u (by simpa using e))
  cases s with
  | v d u=>
   have hd:o.dst=some d:=h.1;rw[List.filterMap_cons,hd];show(lay a0 x (init.filterMap _)).put (some d) (x d)=(Qi a0 x sp).put (some d) u
   rw[ih,hv 0 d u rfl]
  | p d q=>
   have hd:o.dst=some d:=h.1;rw[List.filterMap_cons,hd];show(lay a0 x (init.filterMap _)).put (some d) (x d)=(Qi a0 x sp).put (some d) (x d)
   rw[ih]
  | s q=>
   have hd:o.dst=none:=h.1;rw[List.filterMap_cons,hd];exact ih
  | f d ds q=>
   cases d with
   | none=>
    have hd:o.dst=none:=h.1;rw[List.filterMap_cons,hd];exact ih
   | some d=>
    have hd:o.dst=some d:=h.1;rw[List.filterMap_cons,hd];show(lay a0 x (init.filterMap _)).put (some d) (x d)=(Qi a0 x sp).put (some d) (x d)
    rw[ih]
theorem zQ {x:Tmp→Value}{W:World}: ∀{sp:List Sp},(∀(i:Nat) (s:Sp),sp[i]? =some s→match s with| .v _ _=>True| .p d q=>q (x d) W| .s q=>q W| .f _ ds q=>q (ds.map x) W)→JI x W sp
 | [],_=>trivial
 | .v _ _::l,h=>zQ (sp:=l) (fun i s e=>h (i+1) s (by simpa using e))
 | .p _ _::l,h=>⟨h 0 _ rfl,zQ (sp:=l) (fun i s e=>h (i+1) s (by simpa using e))⟩
 | .s _::l,h=>⟨h 0 _ rfl,zQ (sp:=l) (fun i s e=>h (i+1) s (by simpa using e))⟩
 | .f _ _ _::l,h=>⟨h 0 _ rfl,zQ (sp:=l) (fun i s e=>h (i+1) s (by simpa using e))⟩
theorem yy: ∀{init:List Oper} {sp:List Sp},init.map (·.dst)=sp.map Sp.dst→init.filterMap (·.dst)=sp.filterMap Sp.dst
 | [],[],_=>rfl
 | [],_::_,h=>by simp at h
 | _::_,[],h=>by simp at h
 | o::init,s::sp,h=>by
  simp only[List.map_cons,List.cons.injEq]at h;have ih:=yy h.2;rw[List.filterMap_cons,List.filterMap_cons,h.1,ih]
theorem depL {sp:List Sp}{init:List Oper}{a0 A:Act}{x:Tmp→Value}{ds:List Tmp}{W:World}{after:Array Edge}(hds:init.filterMap (·.dst)=ds)(hl:init.map (·.dst)=sp.map Sp.dst)(hin: ∀e∈after,e.on<init.length)(hA:ZX a0 x ds A)
  (hdep: ∀e∈after,Region.binds .any e=true→ ∀oe,init[e.on]? =some oe→qV (sp.map Sp.says) e.on (qC x oe) W):QI sp A W after.toList:=by
 subst hds;refine Yl _ fun e he hb=>?_
 have he:e∈after:=Array.mem_toList_iff.1 he;obtain⟨oe,hoe⟩: ∃oe,init[e.on]? =some oe:=⟨_,List.getElem?_eq_getElem (hin e he)⟩;obtain⟨s,hs,hsd⟩:=qaP hl hoe;have hg:=hdep e he hb oe hoe;rw[Z8 hs]at hg;refine zM (fun d u e2=>?_) (fun d q e2=>?_)
 ·rw[hs]at e2;obtain rfl:=Option.some.inj e2;have hd:oe.dst=some d:=hsd.symm;rw[hA.1 d (jS hoe hd)];have:qC x oe=x d:=by unfold qC;rw[hd]
  rw[←this];exact hg
 ·rw[hs]at e2;obtain rfl:=Option.some.inj e2;have hd:oe.dst=some d:=hsd.symm;rw[hA.1 d (jS hoe hd)];have:qC x oe=x d:=by unfold qC;rw[hd]
  rw[←this];exact hg
theorem endL {sp:List Sp}{init:List Oper}{a0:Act}{x:Tmp→Value}{W:World}(hl:init.map (·.dst)=sp.map Sp.dst)(hnf:(sp.all fun s=>match s with| .f _ _ _=>false|_=>true)=true)
  (h:QA (fun i o=>qV (sp.map Sp.says) i (qC x o) W) 0 init):JI x W sp∧lay a0 x (init.filterMap (·.dst))=Qi a0 x sp:=by
 have hs: ∀(i:Nat) (s:Sp),sp[i]? =some s→ ∃o,init[i]? =some o∧o.dst=s.dst∧s.says (qC x o) W:=fun i s hi=>by
  have h1:=congrArg (fun l:List (Option Tmp)=>l[i]?) hl;simp only[List.getElem?_map,hi,Option.map_some]at h1
  cases ho:init[i]? with
  | none=>rw[ho]at h1;cases h1
  | some o=>
   rw[ho]at h1;have hg:=yp h i o ho;rw[Z8 hi]at hg;exact⟨o,rfl,by simpa using h1,hg⟩
 refine⟨zQ fun i s hi=>?_,qcg a0 hl fun i d u hi=>?_⟩
 ·obtain⟨o, -,hd,hg⟩:=hs i s hi
  cases s with
  | v d u=>trivial
  | p d q=>
   have:qC x o=x d:=by unfold qC;rw[hd];rfl
   show q (x d) W
   rw[←this];exact hg
  | s q=>exact hg
  | f d ds q=>exact absurd (List.all_eq_true.1 hnf _ (List.mem_of_getElem? hi)) (by simp)
 ·obtain⟨o, -,hd,hg⟩:=hs i _ hi;have:qC x o=x d:=by unfold qC;rw[hd];rfl
  rw[←this];exact hg
def Jz (l:List Oper):Bool:=l.all fun o=>o.after.all fun e=>decide (e.on<l.length)
theorem zz {l:List Oper}(h:Jz l=true){i:Nat}{o:Oper}(hi:l[i]? =some o): ∀e∈o.after,e.on<l.length:=fun e he=>
 of_decide_eq_true (Array.all_eq_true'.1 (List.all_eq_true.1 h o (List.mem_of_getElem? hi)) e he)
def StepC (P:Program)(init:List Oper)(ds:List Tmp)(a0:Act)(B:Nat)(w0:World)(sp:List Sp)(Q:Exit→Act→World→Prop)(i:Nat)(o:Oper):Prop:=
 ∀(A:Act) (x:Tmp→Value) (W:World),ZX a0 x ds A→Below B w0 W→B≤W.heap.size→(∀e∈o.after,Region.binds .any e=true→ ∀oe,init[e.on]? =some oe→qV (sp.map Sp.says) e.on (qC x oe) W)→QI sp A W o.after.toList→
  ∀K:Act→World→Prop,(∀v W',Below W.heap.size W W'→qV (sp.map Sp.says) i v W'→K (A.put o.dst v) W')→Oper.wp P o A W K Q
theorem zR {p q:Nat→Oper→Prop}(l:List Oper): ∀(n:Nat) (m:List Oper),(∀i o,m[i]? =some o→p (n+i) o→q (n+i) o)→QA p n m→QA q n m
 | _,[],_,_=>trivial
 | n,o::m,h,k=>⟨h 0 o rfl k.1,zR l (n+1) m (fun i o' hi hp=>by
   rw[show n+1+i=n+(i+1) by omega]at hp⊢;exact h (i+1) o' (by simpa using hi) hp) k.2⟩
theorem qA {P:Program}{id:Nat}{w w0:World}{Q:Exit→Act→World→Prop}{a0:Act}{B:Nat}{l init tail:List Oper}{n:Nat}{ds:List Tmp}(sp:List Sp)(hst:qbK sp)(hw:Below B w0 w.drew)(hB:B≤w0.heap.size)
  (hstep:QA (StepC P init ds a0 B w0 sp (qH P init tail Q)) 0 init)
  (hend: ∀(x:Tmp→Value) (W:World),Below B w0 W→B≤W.heap.size→JI x W sp→qH P init tail Q .normal (Qi a0 x sp) W)
  (hi:l.take n=init:=by dsimp only[List.take]) (ht:l.drop n=tail:=by dsimp only[List.drop]) (hds:sp.filterMap Sp.dst=ds:=by dsimp only[List.filterMap,Sp.dst]) (hl:init.map (·.dst)=sp.map Sp.dst:=by rfl)
  (hsz:(ds.all fun d=>decide (d<a0.tmps.size))=true:=by rfl) (hnd:ds.Nodup:=by decide) (hback:yr init=true:=by kernel_rfl)
  (hg:(init.all fun o=>o.guard.isNone&&o.dst.isSome)=true:=by rfl) (hb:ZA .any init tail=true:=by kernel_rfl) (hbi:Jz init=true:=by kernel_rfl) (hm:P.follows .mixedOrders=true:=by kernel_rfl)
  (hnf:(sp.all fun s=>match s with| .f _ _ _=>false|_=>true)=true:=by rfl):
  (Code.region id l.toArray true).wp P Q a0 w:=by
 have hds':init.filterMap (·.dst)=ds:=(yy hl).trans hds;refine jC (n:=n) (w0:=w0) (B:=B) ds (sp.map Sp.says) hi ht hds' hsz hnd hback hg hb hm hw hB (Y8 hst) ?_ ?_
 ·refine zR init 0 init (fun i o ho h=>?_) hstep;rw[Nat.zero_add]at h⊢;exact fun A x W hA hW hBW hdep K hK=>h A x W hA hW hBW hdep (depL hds' hl (zz hbi ho) hA hdep) K hK
 ·intro x W hW hBW hall;obtain⟨h1,h2⟩:=endL (a0:=a0) hl hnf hall;rw[hds']at h2;rw[h2];exact hend x W hW hBW h1
def qfm (P:Program)(init:List Oper)(ds:List Tmp)(a0:Act)(R:World→Prop)(sp:List Sp)(Q:Exit→Act→World→Prop)(i:Nat)(o:Oper):Prop:=
 ∀(A:Act) (x:Tmp→Value) (W:World),ZX a0 x ds A→R W→(∀e∈o.after,Region.binds .any e=true→ ∀oe,init[e.on]? =some oe→qV (sp.map Sp.says) e.on (qC x oe) W)→QI sp A W o.after.toList→
  ∀K:Act→World→Prop,(∀v W',R W'→(∀j u,j≠i→qV (sp.map Sp.says) j u W→qV (sp.map Sp.says) j u W')→qV (sp.map Sp.says) i v W'→K (A.put o.dst v) W')→Oper.wp P o A W K Q
theorem Zy {P:Program}{id:Nat}{w:World}{Q:Exit→Act→World→Prop}{a0:Act}{l init tail:List Oper}{n:Nat}{ds:List Tmp}(R:World→Prop)(sp:List Sp)(hw:R w.drew)
  (hstep:QA (qfm P init ds a0 R sp (qH P init tail Q)) 0 init)
  (hend: ∀(x:Tmp→Value) (W:World),R W→JI x W sp→qH P init tail Q .normal (Qi a0 x sp) W)
  (hi:l.take n=init:=by dsimp only[List.take]) (ht:l.drop n=tail:=by dsimp only[List.drop]) (hds:sp.filterMap Sp.dst=ds:=by dsimp only[List.filterMap,Sp.dst]) (hl:init.map (·.dst)=sp.map Sp.dst:=by rfl)
  (hsz:(ds.all fun d=>decide (d<a0.tmps.size))=true:=by rfl) (hnd:ds.Nodup:=by decide) (hback:yr init=true:=by kernel_rfl)
  (hg:(init.all fun o=>o.guard.isNone)=true:=by rfl) (hb:ZA .any init tail=true:=by kernel_rfl) (hbi:Jz init=true:=by kernel_rfl) (hm:P.follows .mixedOrders=true:=by kernel_rfl)
  (hnf:(sp.all fun s=>match s with| .f _ _ _=>false|_=>true)=true:=by rfl):
  (Code.region id l.toArray true).wp P Q a0 w:=by
 have hds':init.filterMap (·.dst)=ds:=(yy hl).trans hds;refine JJ (n:=n) R ds (sp.map Sp.says) hi ht hds' hsz hnd hback hg hb hm hw ?_ ?_ ?_
 ·have: ∀(m:List Oper) (n:Nat),(∀i o,m[i]? =some o→init[n+i]? =some o)→QA (fun i o=>o.dst=none→ ∀v W,qV (sp.map Sp.says) i v W→qV (sp.map Sp.says) i undef W) n m:=by
   intro m;induction m with
   | nil=>intro n _;trivial
   | cons o m ih=>
    intro n h;refine⟨fun hd v W hg=>?_,ih (n+1) (fun i o' hi=>by rw[show n+1+i=n+(i+1) by omega];exact h (i+1) o' (by simpa using hi))⟩;have h0:init[n]? =some o:=h 0 o rfl;obtain⟨s,hs,hsd⟩:=qaP hl h0;rw[Z8 hs]at hg⊢
    cases s with
    | v d u=>rw[hd]at hsd;cases hsd
    | p d q=>rw[hd]at hsd;cases hsd
    | s q=>exact hg
    | f d ds q=>trivial
  exact this init 0 (fun i o hi=>by rw[Nat.zero_add];exact hi)
 ·refine zR init 0 init (fun i o ho h=>?_) hstep;rw[Nat.zero_add]at h⊢;exact fun A x W hA hR hdep K hK=>h A x W hA hR hdep (depL hds' hl (zz hbi ho) hA hdep) K hK
 ·intro x W hR hall;obtain⟨h1,h2⟩:=endL (a0:=a0) hl hnf hall;rw[hds']at h2;rw[h2];exact hend x W hR h1
theorem depG {sp:List Sp}{init:List Oper}{a0 A:Act}{x:Tmp→Value}{ds:List Tmp}{W:World}{after:Array Edge}(hds:init.filterMap (·.dst)=ds)(hl:init.map (·.dst)=sp.map Sp.dst)(hin: ∀e∈after,e.on<init.length)(hA:ZX a0 x ds A)
  (hdep: ∀e∈after,Region.binds .any e=true→yG init (sp.map Sp.gs) x W e.on):QI sp A W after.toList:=by
 subst hds;refine Yl _ fun e he hb=>?_
 have he:e∈after:=Array.mem_toList_iff.1 he;obtain⟨oe,hoe⟩: ∃oe,init[e.on]? =some oe:=⟨_,List.getElem?_eq_getElem (hin e he)⟩;obtain⟨s,hs,hsd⟩:=qaP hl hoe;have hg:=hdep e he hb;rw[qag hs hoe]at hg;refine zM (fun d u e2=>?_) (fun d q e2=>?_)
 ·rw[hs]at e2;obtain rfl:=Option.some.inj e2;have hd:oe.dst=some d:=hsd.symm;rw[hA.1 d (jS hoe hd)];have:qC x oe=x d:=by unfold qC;rw[hd]
  rw[←this];exact hg
 ·rw[hs]at e2;obtain rfl:=Option.some.inj e2;have hd:oe.dst=some d:=hsd.symm;rw[hA.1 d (jS hoe hd)];have:qC x oe=x d:=by unfold qC;rw[hd]
  rw[←this];exact hg
theorem endG {sp:List Sp}{init:List Oper}{a0:Act}{x:Tmp→Value}{W:World}(hl:init.map (·.dst)=sp.map Sp.dst)
  (h:QA (fun i _=>yG init (sp.map Sp.gs) x W i) 0 init):JI x W sp∧lay a0 x (init.filterMap (·.dst))=Qi a0 x sp:=by
 have hs: ∀(i:Nat) (s:Sp),sp[i]? =some s→ ∃o,o.dst=s.dst∧(match s.gs with| .own q=>q (qC x o) W| .far ds q=>q (ds.map x) W):=fun i s hi=>by
  have h1:=congrArg (fun l:List (Option Tmp)=>l[i]?) hl;simp only[List.getElem?_map,hi,Option.map_some]at h1
  cases ho:init[i]? with
  | none=>rw[ho]at h1;cases h1
  | some o=>
   rw[ho]at h1;have hg:=yp h i o ho;rw[qag hi ho]at hg;exact⟨o,by simpa using h1,hg⟩
 refine⟨zQ fun i s hi=>?_,qcg a0 hl fun i d u hi=>?_⟩
 ·obtain⟨o,hd,hg⟩:=hs i s hi
  cases s with
  | v d u=>trivial
  | p d q=>
   have:qC x o=x d:=by unfold qC;rw[hd];rfl
   show q (x d) W
   rw[←this];exact hg
  | s q=>exact hg
  | f d ds q=>exact hg
 ·obtain⟨o,hd,hg⟩:=hs i _ hi;have:qC x o=x d:=by unfold qC;rw[hd];rfl
  rw[←this];exact hg
def Sp.isOwn:Sp→Bool
 | .v _ _=>true
 | .p _ _=>true
 | _=>false
def qde:List Sp→Nat→Nat→Bool
 | [],_,_=>true
 | x::l,n,s=>(n==s||x.isOwn)&&qde l (n+1) s
theorem qcH: ∀{sp:List Sp} {n s:Nat},qde sp n s=true→ ∀{j:Nat} {x:Sp},sp[j]? =some x→n+j≠s→x.isOwn=true
 | [],_,_,_,j,x,h,_=>by simp at h
 | y::_,n,s,h,0,x,hx,hne=>by
  simp only[qde,Bool.and_eq_true,Bool.or_eq_true,beq_iff_eq]at h;simp at hx;subst hx
  exact h.1.resolve_left (by simpa using hne)
 | y::l,n,s,h,j+1,x,hx,hne=>by
  simp only[qde,Bool.and_eq_true]at h;exact qcH (sp:=l) h.2 (by simpa using hx) (by omega)
def qey (P:Program)(l:List Oper)(ds:List Tmp)(a0:Act)(Rb:Bool→World→Prop)(s:Nat)(sp:List Sp)(i:Nat)(Q:Exit→Act→World→Prop)(o:Oper):Prop:=
 ∀(A:Act) (x:Tmp→Value) (W:World) (f:Bool),ZX a0 x ds A→Rb f W→(qav l s i=true→f=false)→(∀e∈o.after,Region.binds .any e=true→yG l (sp.map Sp.gs) x W e.on)→QI sp A W o.after.toList→
  ∀K:Act→World→Prop,(∀v W',Below W.heap.size W W'→qfg (sp.map Sp.gs) i v W'→K (A.put o.dst v) W')→Oper.wp P o A W K Q
theorem Ys {P:Program}{id:Nat}{w:World}{Q:Exit→Act→World→Prop}{a0:Act}{L l tail:List Oper}{n:Nat}{ds:List Tmp}{o:Oper}(Rb:Bool→World→Prop)(s:Nat)(sp:List Sp)(hst:JG sp)(hw:Rb false w.drew)(hRb: ∀f W W',Rb f W→Below W.heap.size W W'→Rb f W')
  (hstep:QA (fun i o=>i=s∨qey P l ds a0 Rb s sp i (qH P l tail Q) o) 0 l)
  (hstore:qex P l ds a0 Rb s (sp.map Sp.gs) (qH P l tail Q) o)
  (hend: ∀(x:Tmp→Value) (W:World),Rb true W→JI x W sp→qH P l tail Q .normal (Qi a0 x sp) W)
  (hi:L.take n=l:=by dsimp only[List.take]) (ht:L.drop n=tail:=by dsimp only[List.drop]) (htl:ZA .any l tail=true:=by kernel_rfl) (hds:sp.filterMap Sp.dst=ds:=by dsimp only[List.filterMap,Sp.dst]) (hl:l.map (·.dst)=sp.map Sp.dst:=by rfl)
  (hsz:(ds.all fun d=>decide (d<a0.tmps.size))=true:=by rfl) (hnd:ds.Nodup:=by decide) (hback:yr l=true:=by kernel_rfl) (hg:(l.all fun o=>o.guard.isNone)=true:=by rfl) (hsl:qay l (sp.map Sp.gs)=true:=by kernel_rfl)
  (ho:l[s]? =some o:=by rfl) (hown:qde sp 0 s=true:=by rfl) (hbi:Jz l=true:=by kernel_rfl) (hm:P.follows .mixedOrders=true:=by kernel_rfl):
  (Code.region id L.toArray true).wp P Q a0 w:=by
 have hds':l.filterMap (·.dst)=ds:=(yy hl).trans hds;have hs:s<l.length:=(List.getElem?_eq_some_iff.1 ho).1;refine jV hi ht htl Rb s ds (sp.map Sp.gs) hds' hsz hnd hback hg hsl hs hm hw hRb (Y9 hst) ?_ ?_
 ·refine zR l 0 l (fun i o' ho' h=>?_) hstep;rw[Nat.zero_add]at h⊢;by_cases his:i=s
  ·subst his;rw[ho]at ho';obtain rfl:=Option.some.inj ho';exact .inr ⟨rfl,hstore⟩
  ·refine .inl ⟨?_,fun A x W f hA hR hf hdep K hK=>h.resolve_left his A x W f hA hR hf hdep (depG hds' hl (zz hbi ho') hA hdep) K hK⟩;obtain⟨x,hx,hxd⟩:=qaP hl ho';have hx1:=qcH hown hx (by rw[Nat.zero_add];exact his);unfold qfh;rw[List.getElem?_map,hx]
   cases x with
   | v d u=>simp[Sp.gs,his,←hxd,Sp.dst]
   | p d q=>simp[Sp.gs,his,←hxd,Sp.dst]
   | s q=>cases hx1
   | f d ds q=>cases hx1
 ·intro x W hR hall;obtain⟨h1,h2⟩:=endG (a0:=a0) hl hall;rw[hds']at h2;rw[h2];exact hend x W hR h1
theorem Ql {P:Program}{id:Nat}{w:World}{Q:Exit→Act→World→Prop}{a0:Act}{l:List Oper}{ds:List Tmp}{o:Oper}(Rb:Bool→World→Prop)(s:Nat)(sp:List Sp)(hst:JG sp)(hw:Rb false w.drew)(hRb: ∀f W W',Rb f W→Below W.heap.size W W'→Rb f W')
  (hstep:QA (fun i o=>i=s∨qey P l ds a0 Rb s sp i Q o) 0 l)
  (hstore:qex P l ds a0 Rb s (sp.map Sp.gs) Q o)
  (hend: ∀(x:Tmp→Value) (W:World),Rb true W→JI x W sp→Q .normal (Qi a0 x sp) W)
  (hds:sp.filterMap Sp.dst=ds:=by dsimp only[List.filterMap,Sp.dst]) (hl:l.map (·.dst)=sp.map Sp.dst:=by rfl)
  (hsz:(ds.all fun d=>decide (d<a0.tmps.size))=true:=by rfl) (hnd:ds.Nodup:=by decide) (hback:yr l=true:=by kernel_rfl) (hg:(l.all fun o=>o.guard.isNone)=true:=by rfl) (hsl:qay l (sp.map Sp.gs)=true:=by kernel_rfl)
  (ho:l[s]? =some o:=by rfl) (hown:qde sp 0 s=true:=by rfl) (hbi:Jz l=true:=by kernel_rfl) (hm:P.follows .mixedOrders=true:=by kernel_rfl):
  (Code.region id l.toArray true).wp P Q a0 w:=
 Ys (n:=l.length) (l:=l) (tail:=[]) Rb s sp hst hw hRb hstep hstore hend (by simp) (by simp) rfl hds hl hsz hnd hback hg hsl ho hown hbi hm
end Go.Proofs.YtdndeffmlhaipaaGreatDoor
