/- A region that draws its order, in a world that grows only: each operation's slot says what it must, in whatever order; then a tail of operations of which each waits for all before it. No condition. -/
import Derived.Test.YtdndeffmlhaipaaGreatDoorS13
import Derived.Test.YtdndeffmlhaipaaGreatDoorS08
import Derived.Test.YtdndeffmlhaipaaGreatDoorS02
import Derived.Below
import Derived.Laws.Tables
set_option linter.all false
set_option maxRecDepth 100000
set_option maxHeartbeats 8000000
namespace Go.Proofs.YtdndeffmlhaipaaGreatDoor
open Go Go.RowKit
theorem YM {P:Program}{o:Oper}{a:Act}{w:World}{K:Act→World→Prop}{Q:Exit→Act→World→Prop}(t:TypeId)(parts:Array (Nat×Operand))(ho:o.op= .build t parts)(cells:Array Value)
  (hf:P.built t (parts.map fun(i,x)=>(i,a.eval x)).toList=some cells) (h:K (a.put o.dst (.agg cells)) w):o.wp P a w K Q:=
 wp_build t parts ho (by rw[hf];rfl) (by rw[hf];exact h)
def yd (p:Nat→Oper→Prop):Nat→List Oper→Prop
 | _,[]=>True
 | n,o::l=>p n o∧yd p (n+1) l
theorem qu {p:Nat→Oper→Prop}{n:Nat}{o:Oper}{l:List Oper}(h:p n o)(h':yd p (n+1) l):yd p n (o::l):=⟨h,h'⟩
theorem qw {p:Nat→Oper→Prop}{n:Nat}:yd p n []:=trivial
theorem qcl {p:Nat→Oper→Prop}: ∀(l:List Oper) (n:Nat),yd p n l→ ∀i o,l[i]? =some o→p (n+i) o
 | [],_,_,i,o,hi=>by simp at hi
 | _::_,n,h,0,o,hi=>by simp at hi;subst hi;exact h.1
 | _::l,n,h,i+1,o,hi=>by
  have:=qcl l (n+1) h.2 i o (by simpa using hi)
  rw[show n+(i+1)=n+1+i by omega];exact this
theorem Ya {p:Nat→Oper→Prop}{l:List Oper}(h:yd p 0 l): ∀i o,l[i]? =some o→p i o:=fun i o hi=>by
 have:=qcl l 0 h i o hi
 rwa[Nat.zero_add]at this
def QB (gs:List (Value→World→Prop))(i:Nat)(v:Value)(W:World):Prop:=match gs[i]? with
 | some g=>g v W
 | none=>True
def qdO:List (Value→World→Prop)→Prop
 | []=>True
 | g::gs=>(∀v W W',g v W→Below W.heap.size W W'→g v W')∧qdO gs
theorem JY: ∀{gs:List (Value→World→Prop)},qdO gs→ ∀{i:Nat} {v:Value} {W W':World},QB gs i v W→Below W.heap.size W W'→QB gs i v W'
 | [],_,i,v,W,W',_,_=>by unfold QB;simp
 | g::gs,h,0,v,W,W',hg,hb=>h.1 v W W' hg hb
 | g::gs,h,i+1,v,W,W',hg,hb=>by
  have:=JY (gs:=gs) h.2 (i:=i) (v:=v) (W:=W) (W':=W') (by unfold QB at hg⊢;simpa using hg) hb
  unfold QB at this⊢;simpa using this
def Z7 (md:Region.Mode):List Oper→List Oper→Bool
 | _,[]=>true
 | init,o::t=>jD md init o init.length&&qaX md init&&Z7 md (init++[o]) t
def Qe (P:Program):List Oper→List Oper→(Exit→Act→World→Prop)→Exit→Act→World→Prop
 | _,[],Q=>Q
 | init,o::t,Q=>jt P (init++[o]).toArray o (Qe P (init++[o]) t Q)
theorem qn {P:Program}{init t:List Oper}{o:Oper}{Q:Exit→Act→World→Prop}{a:Act}{w:World}(h:wpList P (init++[o]).toArray (Qe P (init++[o]) t Q) [o] a w):Qe P init (o::t) Q .normal a w:=h
theorem qt {P:Program}{init:List Oper}{Q:Exit→Act→World→Prop}{a:Act}{w:World}(h:Q .normal a w):Qe P init [] Q .normal a w:=h
theorem zc {P:Program}{md:Region.Mode}{Q:Exit→Act→World→Prop}{a:Act}{w:World}: ∀(tail init:List Oper),Z7 md init tail=true→
  wpAny P md init.toArray (Qe P init tail Q) init.length (Array.replicate init.length false) a w→wpAny P md (init++tail).toArray Q (init.length+tail.length) (Array.replicate (init.length+tail.length) false) a w
 | [],init,_,h=>by simpa [Qe] using h
 | o::t,init,hb,h=>by
  simp only[Z7,Bool.and_eq_true]at hb;have h1:=zc (P:=P) (Q:=Q) (a:=a) (w:=w) t (init++[o]) hb.2 (by
   have e1:(init++[o]).toArray=init.toArray.push o:=by simp
   have e2:(init++[o]).length=init.length+1:=by simp
   have e3:Array.replicate (init.length+1) false=(Array.replicate init.length false).push false:=by
    rw[Array.replicate_succ]
   rw[e2,e3,e1];refine ZR (by simpa using hb.1.1) (by simpa using hb.1.2) _ _ _ _ (by simp) ?_ (by rw[←e1];exact h);intro j oj hoj hlj;exfalso
   have hjs:=(Ai hoj).1;simp only[List.size_toArray]at hjs;rw[Lh,Array.getElem?_replicate,if_pos hjs]at hlj
   cases hlj)
  have e1:init++[o]++t=init++o::t:=by simp
  have e2:(init++[o]).length+t.length=init.length+(o::t).length:=by simp;omega
  rw[e1,e2]at h1;exact h1
theorem qcd (a0:Act)(x:Tmp→Value): ∀ds,(lay a0 x ds).tmps.size=a0.tmps.size
 | []=>rfl
 | d::ds=>by
  show((lay a0 x ds).put (some d) (x d)).tmps.size=_
  simp[Act.put,qcd a0 x ds]
theorem qdJ (a0:Act)(x:Tmp→Value){d:Tmp}: ∀ds,d∉ds→(lay a0 x ds).tmps.getD d undef=a0.tmps.getD d undef
 | [],_=>rfl
 | e::ds,h=>by
  show((lay a0 x ds).put (some e) (x e)).tmps.getD d undef=_
  have h1:e≠d:=fun h2=>h (by simp[h2])
  rw[←qdJ a0 x ds (fun h2=>h (by simp[h2]))];simp[Act.put,Lh,Array.getElem?_setIfInBounds,h1]
theorem qfg (a0:Act)(x:Tmp→Value){d:Tmp}(hd:d<a0.tmps.size): ∀ds,d∈ds→(lay a0 x ds).tmps.getD d undef=x d
 | e::ds,h=>by
  show((lay a0 x ds).put (some e) (x e)).tmps.getD d undef=_
  by_cases h1:e=d
  ·subst h1;have hs:e<(lay a0 x ds).tmps.size:=by rw[qcd];exact hd
   simp[Act.put,Lh,Array.getElem?_setIfInBounds,hs]
  ·have h2:d∈ds:=by
    rcases List.mem_cons.1 h with h2|h2
    ·exact absurd h2.symm h1
    ·exact h2
   rw[←qfg a0 x hd ds h2];simp[Act.put,Lh,Array.getElem?_setIfInBounds,h1]
def jT (a0:Act)(x:Tmp→Value)(ds:List Tmp)(A:Act):Prop:=(∀d,d∈ds→A.tmps.getD d undef=x d)∧ ∀d,d∉ds→A.tmps.getD d undef=a0.tmps.getD d undef
theorem JU {a0:Act}{x:Tmp→Value}{ds:List Tmp}(h: ∀d∈ds,d<a0.tmps.size):jT a0 x ds (lay a0 x ds):=⟨fun d hd=>qfg a0 x (h d hd) ds hd,fun d hd=>qdJ a0 x ds hd⟩
def StepO (P:Program)(init:List Oper)(ds:List Tmp)(a0:Act)(B:Nat)(w0:World)(gs:List (Value→World→Prop))(Q:Exit→Act→World→Prop)(i:Nat)(o:Oper):Prop:=
 ∀(A:Act) (x:Tmp→Value) (W:World),jT a0 x ds A→Below B w0 W→B≤W.heap.size→(∀e∈o.after,Region.binds .any e=true→ ∀oe,init[e.on]? =some oe→QB gs e.on (qH x oe) W)→
  ∀K:Act→World→Prop,(∀v W',Below W.heap.size W W'→QB gs i v W'→K (A.put o.dst v) W')→Oper.wp P o A W K Q
theorem Jk {P:Program}{id:Nat}{w w0:World}{Q:Exit→Act→World→Prop}{a0:Act}{B:Nat}{l init tail:List Oper}{n:Nat}(ds:List Tmp)(gs:List (Value→World→Prop))(hi:l.take n=init)(ht:l.drop n=tail)(hds:init.filterMap (·.dst)=ds)(hsz:(ds.all fun d=>decide (d<a0.tmps.size))=true)(hnd:ds.Nodup)(hback:Yb init=true)
  (hg:(init.all fun o=>o.guard.isNone&&o.dst.isSome)=true) (hb:Z7 .any init tail=true) (hm:P.follows .mixedOrders=true) (hw:Below B w0 w.drew) (hB:B≤w0.heap.size) (hst:qdO gs)
  (hstep:yd (StepO P init ds a0 B w0 gs (Qe P init tail Q)) 0 init)
  (hend: ∀(x:Tmp→Value) (W:World),Below B w0 W→B≤W.heap.size→yd (fun i o=>QB gs i (qH x o) W) 0 init→Qe P init tail Q .normal (lay a0 x ds) W):
  (Code.region id l.toArray true).wp P Q a0 w:=by
 have hl:l=init++tail:=by rw[←hi,←ht];exact(List.take_append_drop _ _).symm
 clear hi ht;subst hl;subst hds;have hall:=fun o ho=>List.all_eq_true.1 hg o ho
 refine wp_region_any hm ?_;have e:(init++tail).toArray.size=init.length+tail.length:=by simp
 rw[e];refine zc tail init hb ?_;have H:=qaB (P:=P) (ops:=init) (a0:=a0) (Q:=Qe P init tail Q) (R:=fun W=>Below B w0 W) (Good:=QB gs) hnd hback (fun i o hi x W hR hdep K hK=>by
   have ho:=hall o (List.mem_of_getElem? hi);simp only[Bool.and_eq_true,Option.isNone_iff_eq_none]at ho;have hBW:B≤W.heap.size:=Nat.le_trans hB hR.size;rw[if_pos (by simp[Region.wanted,ho.1])];exact Ya hstep i o hi _ x W (JU (fun d hd=>of_decide_eq_true (List.all_eq_true.1 hsz d hd))) hR hBW hdep K (fun v W' hbW hgv=>hK v W' (hR.trans (hbW.mono hBW)) (fun j u _ hj=>JY hst hj hbW) hgv))
  (fun i o v W hi hd=>by
   have ho:=hall o (List.mem_of_getElem? hi);rw[hd]at ho;simp at ho)
  (fun x W hR hG=>hend x W hR (Nat.le_trans hB hR.size) (by
   have: ∀(l:List Oper) (n:Nat),(∀i o,l[i]? =some o→QB gs (n+i) (qH x o) W)→yd (fun i o=>QB gs i (qH x o) W) n l:=by
    intro l;induction l with
    | nil=>intro n _;trivial
    | cons o l ih=>
     intro n h;refine⟨by simpa using h 0 o (by simp),ih (n+1) (fun i o' hi=>?_)⟩;have:=h (i+1) o' (by simpa using hi)
     rw[show n+1+i=n+(i+1) by omega];exact this
   exact this init 0 (fun i o hi=>by rw[Nat.zero_add];exact hG i o hi)))
  init.length (Array.replicate init.length false) (fun d=>a0.tmps.getD d undef) w.drew (by simp) (by
   simp only[Array.toList_replicate,ZB,List.countP_replicate];simp) hw (fun i o hi hl=>by
   have hlt:i<init.length:=(List.getElem?_eq_some_iff.1 hi).1;simp[Lh,hlt]at hl)
 rw[jh]at H;exact H
def StepR (P:Program)(init:List Oper)(ds:List Tmp)(a0:Act)(R:World→Prop)(gs:List (Value→World→Prop))(Q:Exit→Act→World→Prop)(i:Nat)(o:Oper):Prop:=
 ∀(A:Act) (x:Tmp→Value) (W:World),jT a0 x ds A→R W→(∀e∈o.after,Region.binds .any e=true→ ∀oe,init[e.on]? =some oe→QB gs e.on (qH x oe) W)→
  ∀K:Act→World→Prop,(∀v W',R W'→(∀j u,j≠i→QB gs j u W→QB gs j u W')→QB gs i v W'→K (A.put o.dst v) W')→Oper.wp P o A W K Q
theorem qah {P:Program}{id:Nat}{w:World}{Q:Exit→Act→World→Prop}{a0:Act}{l init tail:List Oper}{n:Nat}(R:World→Prop)(ds:List Tmp)(gs:List (Value→World→Prop))(hi:l.take n=init)(ht:l.drop n=tail)(hds:init.filterMap (·.dst)=ds)(hsz:(ds.all fun d=>decide (d<a0.tmps.size))=true)(hnd:ds.Nodup)(hback:Yb init=true)
  (hg:(init.all fun o=>o.guard.isNone)=true) (hb:Z7 .any init tail=true) (hm:P.follows .mixedOrders=true) (hw:R w.drew)
  (hgn:yd (fun i o=>o.dst=none→ ∀v W,QB gs i v W→QB gs i undef W) 0 init)
  (hstep:yd (StepR P init ds a0 R gs (Qe P init tail Q)) 0 init)
  (hend: ∀(x:Tmp→Value) (W:World),R W→yd (fun i o=>QB gs i (qH x o) W) 0 init→Qe P init tail Q .normal (lay a0 x ds) W):
  (Code.region id l.toArray true).wp P Q a0 w:=by
 have hl:l=init++tail:=by rw[←hi,←ht];exact(List.take_append_drop _ _).symm
 clear hi ht;subst hl;subst hds;have hall:=fun o ho=>List.all_eq_true.1 hg o ho
 refine wp_region_any hm ?_;have e:(init++tail).toArray.size=init.length+tail.length:=by simp
 rw[e];refine zc tail init hb ?_;have H:=qaB (P:=P) (ops:=init) (a0:=a0) (Q:=Qe P init tail Q) (R:=R) (Good:=QB gs) hnd hback (fun i o hi x W hR hdep K hK=>by
   have ho:=hall o (List.mem_of_getElem? hi);simp only[Option.isNone_iff_eq_none]at ho;rw[if_pos (by simp[Region.wanted,ho])];exact Ya hstep i o hi _ x W (JU (fun d hd=>of_decide_eq_true (List.all_eq_true.1 hsz d hd))) hR hdep K hK)
  (fun i o v W hi hd hgv=>Ya hgn i o hi hd v W hgv)
  (fun x W hR hG=>hend x W hR (by
   have: ∀(l:List Oper) (n:Nat),(∀i o,l[i]? =some o→QB gs (n+i) (qH x o) W)→yd (fun i o=>QB gs i (qH x o) W) n l:=by
    intro l;induction l with
    | nil=>intro n _;trivial
    | cons o l ih=>
     intro n h;refine⟨by simpa using h 0 o (by simp),ih (n+1) (fun i o' hi=>?_)⟩;have:=h (i+1) o' (by simpa using hi)
     rw[show n+1+i=n+(i+1) by omega];exact this
   exact this init 0 (fun i o hi=>by rw[Nat.zero_add];exact hG i o hi)))
  init.length (Array.replicate init.length false) (fun d=>a0.tmps.getD d undef) w.drew (by simp) (by
   simp only[Array.toList_replicate,ZB,List.countP_replicate];simp) hw (fun i o hi hl=>by
   have hlt:i<init.length:=(List.getElem?_eq_some_iff.1 hi).1;simp[Lh,hlt]at hl)
 rw[jh]at H;exact H
theorem BR {B:Nat}{w:World}:Below B w w:=Below.refl _ _
theorem kW {g:Value→Prop}: ∀(W W':World),Below W.heap.size W W'→ ∀v,g v→g v:=fun _ _ _ _ h=>h
theorem gv {a0 A:Act}{x:Tmp→Value}{ds:List Tmp}{gs:List (Value→World→Prop)}{init:List Oper}{W:World}{after:Array Edge}{v:Value}{oe:Oper}(hA:jT a0 x ds A)
    (hdep: ∀e∈after,Region.binds .any e=true→ ∀oe,init[e.on]? =some oe→QB gs e.on (qH x oe) W) (i s:Nat)
    (h1:s∈ds:=by decide) (h2:(⟨i,.data⟩:Edge)∈after:=by simp) (h3:init[i]? =some oe:=by rfl) (h4:qH x oe=x s:=by rfl) (h5:QB gs i=(fun u _=>u=v):=by rfl):A.tmps.getD s undef=v:=by
  have:=hdep _ h2 rfl oe h3
  rw[h5,h4]at this;exact(hA.1 s h1).trans this
def setD (D:Nat→Bool)(i:Nat):Nat→Bool:=fun j=>D j||j==i
def ze (x:Tmp→Value)(d:Option Tmp)(v:Value):Tmp→Value:=match d with|some d=>upd x d v|none=>x
def qdR (ops:List Oper)(D:Nat→Bool):Prop:= ∀j oj,ops[j]? =some oj→D j=true→ ∀e∈oj.after,Region.binds .any e=true→D e.on=true
theorem qff (a0:Act)(x:Tmp→Value){ops:List Oper}(hnd:(ops.filterMap (·.dst)).Nodup){i:Nat}{o:Oper}(hi:ops[i]? =some o)(v:Value):
  (lay a0 x (ops.filterMap (·.dst))).put o.dst v=lay a0 (ze x o.dst v) (ops.filterMap (·.dst)):=by
 cases hd:o.dst with
 | none=>rfl
 | some d=>exact Jt a0 x d v _ hnd (List.mem_filterMap.2 ⟨o,List.mem_of_getElem? hi,hd⟩)
section
variable {P:Program} {ops:List Oper} {a0:Act} {Q:Exit→Act→World→Prop} {R:(Nat→Bool)→(Tmp→Value)→World→Prop}
theorem qdS (hnd:(ops.filterMap (·.dst)).Nodup)(hback:Yb ops=true)
  (hstep: ∀(i:Nat) (o:Oper),ops[i]? =some o→ ∀(D:Nat→Bool) (x:Tmp→Value) (W:World),R D x W→D i=false→(∀e∈o.after,Region.binds .any e=true→D e.on=true)→qdR ops D→
   ∀K:Act→World→Prop,(∀v W',R (setD D i) (ze x o.dst v) W'→K ((lay a0 x (ops.filterMap (·.dst))).put o.dst v) W')→
   if Region.wanted o (yielded ops.toArray (lay a0 x (ops.filterMap (·.dst))).tmps)=true then Oper.wp P o (lay a0 x (ops.filterMap (·.dst))) W K Q else K ((lay a0 x (ops.filterMap (·.dst))).put o.dst undef) W)
  (hend: ∀(D:Nat→Bool) (x:Tmp→Value) (W:World),R D x W→(∀i,D i=true)→Q .normal (lay a0 x (ops.filterMap (·.dst))) W):
  ∀(fuel:Nat) (listed:Array Bool) (x:Tmp→Value) (W:World),listed.size=ops.length→ZB listed.toList≤fuel→R (fun j=>listed.getD j true) x W→qdR ops (fun j=>listed.getD j true)→
   wpAny P .any ops.toArray Q fuel listed (lay a0 x (ops.filterMap (·.dst))) W:=by
 intro fuel;induction fuel with
 | zero=>
  intro listed x W hs ht hR hC;have hall: ∀i,listed.getD i true=true:=fun i=>by
   have:=jw (l:=listed.toList) (by omega) i
   simpa [Lh,Lg] using this
  refine⟨?_,hend _ x W hR hall⟩;rw[List.eq_nil_iff_forall_not_mem];intro j hj;have:=(mem_ready.1 hj).1
  rw[hall j]at this
  cases this
 | succ fuel ih=>
  intro listed x W hs ht hR hC;refine⟨fun hr=>hend _ x W hR ?_,fun i hi=>?_⟩
  ·intro j;show listed.getD j true=true
   induction j using Nat.strongRecOn with
   | _ j ihj=>
    cases hl:listed.getD j true with
    | true=>rfl
    | false=>
     have hj:j<listed.size:=by
      rw[Lh]at hl
      cases e:listed[j]? with
      | none=>rw[e]at hl;cases hl
      | some b=>exact(Ai e).1
     obtain⟨oj,ho⟩: ∃oj,ops[j]? =some oj:=⟨ops[j]'(by omega),by simp[show j<ops.length by omega]⟩;have hm:j∈Region.ready .any ops.toArray listed:=mem_ready.2 ⟨hl,oj,by simpa using ho,fun e he hb=>by
      have hlt:=(QW hback ho).1 e he hb;have h2:=ihj e.on hlt;have hlt':e.on<listed.size:=by omega
      simp only[Lh,Array.getElem?_eq_getElem hlt',Option.getD_some]at h2⊢;exact h2⟩
     rw[hr]at hm;cases hm
  ·obtain⟨hun,o,ho,hdep⟩:=mem_ready.1 hi;have ho':ops[i]? =some o:=by simpa using ho
   have hi':i<listed.size:=by
    have:=(List.getElem?_eq_some_iff.1 ho').1
    omega
   have hun':listed.toList[i]? =some false:=by
    rw[Lh,Array.getElem?_eq_getElem hi',Option.getD_some]at hun;rw[Array.getElem?_toList,Array.getElem?_eq_getElem hi',hun]
   have htodo:ZB (listed.setIfInBounds i true).toList≤fuel:=by
    have:=Z6 listed.toList i hun'
    rw[Array.toList_setIfInBounds];omega
   have hdep': ∀e∈o.after,Region.binds .any e=true→listed.getD e.on true=true:=fun e he hb=>by
    have h6:=hdep e he hb;rw[Lh]at h6⊢
    cases e':listed[e.on]? with
    | none=>rfl
    | some b=>rw[e']at h6;exact h6
   have hset:(fun j=>(listed.setIfInBounds i true).getD j true)=setD (fun j=>listed.getD j true) i:=by
    funext j
    simp only[setD,Lh,Array.getElem?_setIfInBounds];by_cases e:i=j
    ·subst e;simp[hi']
    ·simp[e,Ne.symm e]
   refine wpOp_step ho fun K hK=>hstep i o ho' _ x W hR hun hdep' hC K fun v W' hR'=>?_
   rw[qff a0 x hnd ho' v];refine hK _ _ ?_;refine ih _ (ze x o.dst v) W' (by simpa using hs) htodo (by rw[hset];exact hR') ?_;intro j oj hoj hlj e he hb;rw[hset]at hlj⊢;simp only[setD,Bool.or_eq_true,beq_iff_eq]at hlj⊢;rcases hlj with hlj|rfl
   ·exact .inl (hC j oj hoj hlj e he hb)
   ·obtain rfl:o=oj:=Option.some.inj (ho'.symm.trans hoj);exact .inl (hdep' e he hb)
end
inductive GS where
 | own (q:Value→World→Prop)
 | far (ds:List Tmp) (q:List Value→World→Prop)
def Yo (l:List Oper)(gs:List GS)(x:Tmp→Value)(W:World)(j:Nat):Prop:=match gs[j]?,l[j]? with
 | some (.own q),some o=>q (qH x o) W
 | some (.far ds q),some _=>q (ds.map x) W
 | _,_=>True
def GS.stay:GS→World→World→Prop
 | .own q,W,W'=> ∀v,q v W→q v W'
 | .far _ q,W,W'=> ∀v,q v W→q v W'
def qdP:List GS→Prop
 | []=>True
 | g::gs=>(∀W W',Below W.heap.size W W'→g.stay W W')∧qdP gs
theorem qbM: ∀{gs:List GS},qdP gs→ ∀{j:Nat} {g:GS},gs[j]? =some g→ ∀W W',Below W.heap.size W W'→g.stay W W'
 | [],_,j,g,h,_,_,_=>by simp at h
 | _::_,hs,0,g,h,W,W',hb=>by simp at h;subst h;exact hs.1 W W' hb
 | _::gs,hs,j+1,g,h,W,W',hb=>qbM (gs:=gs) hs.2 (by simpa using h) W W' hb
def qbG (W W':World)(s:Nat):Nat→List GS→Prop
 | _,[]=>True
 | n,g::gs=>(n=s∨g.stay W W')∧qbG W W' s (n+1) gs
theorem Jz {W W':World}{s:Nat}: ∀{gs:List GS} {n:Nat},qbG W W' s n gs→ ∀{j:Nat} {g:GS},gs[j]? =some g→n+j≠s→g.stay W W'
 | [],_,_,j,g,h,_=>by simp at h
 | _::_,n,hs,0,g,h,hne=>by
  simp at h;subst h
  rcases hs.1 with h1|h1
  ·exact absurd h1 (by simpa using hne)
  ·exact h1
 | _::gs,n,hs,j+1,g,h,hne=>Jz (gs:=gs) hs.2 (by simpa using h) (by omega)
def qa7 (l:List Oper)(gs:List GS):Bool:=(List.range l.length).all fun j=>match l[j]?,gs[j]? with
 | some oj,some (.far ds _)=>ds.all fun d=>oj.after.any fun e=>Region.binds .any e&&(match l[e.on]? with|some oe=>oe.dst==some d|none=>false)
 | _,_=>true
theorem jZ {l:List Oper}{gs:List GS}(h:qa7 l gs=true){j:Nat}{oj:Oper}{ds:List Tmp}{q:List Value→World→Prop}(hj:l[j]? =some oj)(hg:gs[j]? =some (.far ds q)){d:Tmp}(hd:d∈ds):
  ∃e∈oj.after,Region.binds .any e=true∧ ∃oe,l[e.on]? =some oe∧oe.dst=some d:=by
 have hlt:j<l.length:=(List.getElem?_eq_some_iff.1 hj).1;have h1:=List.all_eq_true.1 h j (List.mem_range.2 hlt);rw[hj,hg]at h1;obtain⟨e,he,h2⟩:=Array.any_eq_true'.1 (List.all_eq_true.1 h1 d hd);rw[Bool.and_eq_true]at h2;refine⟨e,he,h2.1,?_⟩
 cases ho:l[e.on]? with
 | none=>rw[ho]at h2;simp at h2
 | some oe=>rw[ho]at h2;exact⟨oe,rfl,by simpa using h2.2⟩
def qgq (gs:List GS)(s i:Nat)(o:Oper):Bool:=(match gs[i]? with|some (.far _ _)=>false|_=>true)&&i != s&&o.dst.isSome
def qgp (gs:List GS)(i:Nat)(v:Value)(W:World):Prop:=match gs[i]? with|some (.own q)=>q v W|_=>True
def atG (gs:List GS)(i:Nat)(x:Tmp→Value)(v:Value)(W:World):Prop:=match gs[i]? with|some (.far ds q)=>q (ds.map x) W|some (.own q)=>q v W|none=>True
def StepG (P:Program)(l:List Oper)(ds:List Tmp)(a0:Act)(Rb:Bool→World→Prop)(s:Nat)(gs:List GS)(Q:Exit→Act→World→Prop)(i:Nat)(o:Oper):Prop:=
 ∀(A:Act) (x:Tmp→Value) (W:World) (f:Bool),jT a0 x ds A→Rb f W→(ZS l s i=true→f=false)→(∀e∈o.after,Region.binds .any e=true→Yo l gs x W e.on)→
  ∀K:Act→World→Prop,(∀v W',Below W.heap.size W W'→qgp gs i v W'→K (A.put o.dst v) W')→Oper.wp P o A W K Q
def qfD (P:Program)(l:List Oper)(ds:List Tmp)(a0:Act)(Rb:Bool→World→Prop)(s:Nat)(gs:List GS)(Q:Exit→Act→World→Prop)(o:Oper):Prop:=
 ∀(A:Act) (x:Tmp→Value) (W:World),jT a0 x ds A→Rb false W→(∀e∈o.after,Region.binds .any e=true→Yo l gs x W e.on)→
  ∀K:Act→World→Prop,(∀v W',(o.dst=none→v=undef)→Rb true W'→qbG W W' s 0 gs→atG gs s x v W'→K (A.put o.dst v) W')→Oper.wp P o A W K Q
theorem qcK {l:List Oper}(hback:Yb l=true){i j:Nat}{o oj:Oper}(hi:l[i]? =some o)(hj:l[j]? =some oj)(hne:j≠i)(x:Tmp→Value)(v:Value):qH (ze x o.dst v) oj=qH x oj:=by
 unfold qH ze
 cases hd:o.dst with
 | none=>rfl
 | some d=>
  cases hd':oj.dst with
  | none=>rfl
  | some d'=>
   have:d'≠d:=fun e=>hne ((QW hback hi).2 j oj d hj hd (by rw[hd',e]))
   simp[upd,this]
theorem Jw {P:Program}{id:Nat}{w:World}{Q:Exit→Act→World→Prop}{a0:Act}{L l tail:List Oper}{n:Nat}(hi:L.take n=l)(ht:L.drop n=tail)(htl:Z7 .any l tail=true)(Rb:Bool→World→Prop)(s:Nat)(ds:List Tmp)(gs:List GS)(hds:l.filterMap (·.dst)=ds)(hsz:(ds.all fun d=>decide (d<a0.tmps.size))=true)(hnd:ds.Nodup)(hback:Yb l=true)
  (hg:(l.all fun o=>o.guard.isNone)=true) (hsl:qa7 l gs=true) (hs:s<l.length) (hm:P.follows .mixedOrders=true) (hw:Rb false w.drew) (hRb: ∀f W W',Rb f W→Below W.heap.size W W'→Rb f W') (hst:qdP gs)
  (hstep:yd (fun i o=>(qgq gs s i o=true∧StepG P l ds a0 Rb s gs (Qe P l tail Q) i o)∨(i=s∧qfD P l ds a0 Rb s gs (Qe P l tail Q) o)) 0 l)
  (hend: ∀(x:Tmp→Value) (W:World),Rb true W→yd (fun i _=>Yo l gs x W i) 0 l→Qe P l tail Q .normal (lay a0 x ds) W):
  (Code.region id L.toArray true).wp P Q a0 w:=by
 have hL:L=l++tail:=by rw[←hi,←ht];exact(List.take_append_drop _ _).symm
 clear hi ht;subst hL;subst hds;have hall:=fun o ho=>List.all_eq_true.1 hg o ho
 have hslt:=hs;refine wp_region_any hm ?_;have eL:(l++tail).toArray.size=l.length+tail.length:=by simp
 rw[eL];refine zc tail l htl ?_;have H:=qdS (P:=P) (ops:=l) (a0:=a0) (Q:=Qe P l tail Q) (R:=fun D x W=>Rb (D s) W∧ ∀i,D i=true→Yo l gs x W i) hnd hback (fun i o hi D x W hR hDi hdep hC K hK=>by
   have ho:=hall o (List.mem_of_getElem? hi);rw[Option.isNone_iff_eq_none]at ho;rw[if_pos (by simp[Region.wanted,ho])];have hL:jT a0 x (l.filterMap (·.dst)) (lay a0 x (l.filterMap (·.dst))):=JU (fun d hd=>of_decide_eq_true (List.all_eq_true.1 hsz d hd));have hothers: ∀(j:Nat) (v:Value) (W':World),j≠i→D j=true→(∀g,gs[j]? =some g→g.stay W W')→Yo l gs (ze x o.dst v) W' j:=fun j v W' hji hDj hstay=>by
    have hgood:=hR.2 j hDj;unfold Yo at hgood⊢
    cases hgj:gs[j]? with
    | none=>trivial
    | some g=>
     cases hlj:l[j]? with
     | none=>cases g<;>trivial
     | some oj=>
      rw[hgj,hlj]at hgood
      cases g with
      | own q=>
       show q (qH (ze x o.dst v) oj) W'
       rw[qcK hback hi hlj hji];exact hstay _ hgj _ hgood
      | far dl q=>
       show q (dl.map (ze x o.dst v)) W'
       have e:dl.map (ze x o.dst v)=dl.map x:=by
        refine List.map_congr_left fun d hd=>?_
        unfold ze
        cases hdo:o.dst with
        | none=>rfl
        | some d'=>
         have:d≠d':=by
          rintro rfl
          obtain⟨e,he,hb,oe,hoe,hod⟩:=jZ hsl hlj hgj hd;have h1:=(QW hback hi).2 e.on oe d hoe hdo hod;have h2:=hC j oj hlj hDj e he hb;rw[h1,hDi]at h2
          cases h2
         simp[upd,this]
       rw[e];exact hstay _ hgj _ hgood
   rcases Ya hstep i o hi with⟨hown,hG⟩|⟨rfl,hS⟩
   ·unfold qgq at hown;simp only[Bool.and_eq_true,bne_iff_ne]at hown;refine hG _ x W (D s) hL hR.1 (fun hwt=>?_) (fun e he hb=>hR.2 _ (hdep e he hb)) K (fun v W' hbW hgv=>hK v W' ⟨?_,fun j hj=>?_⟩)
    ·obtain⟨o',ho',e,he,hb,hon⟩:=jX hwt
     cases hDs:D s with
     | false=>rfl
     | true=>
      have:=hC s o' ho' hDs e he hb
      rw[hon,hDi]at this;cases this
    ·have e:setD D i s=D s:=by
      have:(s==i)=false:=by rw[beq_eq_false_iff_ne];exact Ne.symm hown.1.2
      simp[setD,this]
     rw[e];exact hRb _ _ _ hR.1 hbW
    ·by_cases hji:j=i
     ·subst hji;unfold Yo;unfold qgp at hgv
      cases hgj:gs[j]? with
      | none=>trivial
      | some g=>
       rw[hgj]at hgv hown;rw[hi]
       cases g with
       | own q=>
        obtain⟨d,hd⟩:=Option.isSome_iff_exists.1 hown.2;have:qH (ze x o.dst v) o=v:=by unfold qH ze;rw[hd];simp[upd]
        show q (qH (ze x o.dst v) o) W'
        rw[this];exact hgv
       | far dl q=>simp at hown
     ·have hDj:D j=true:=by
       have hb:(j==i)=false:=by rw[beq_eq_false_iff_ne];exact hji
       simpa [setD,hb] using hj
      exact hothers j v W' hji hDj fun g hg'=>qbM hst hg' W W' hbW
   ·refine hS _ x W hL (hDi▸hR.1) (fun e he hb=>hR.2 _ (hdep e he hb)) K (fun v W' hv hR' hstay hgv=>?_);refine hK v W' ⟨?_,fun j hj=>?_⟩
    ·have:setD D i i=true:=by simp[setD]
     rw[this];exact hR'
    ·by_cases hji:j=i
     ·subst hji;unfold Yo;unfold atG at hgv
      cases hgj:gs[j]? with
      | none=>trivial
      | some g=>
       rw[hgj]at hgv;rw[hi]
       cases g with
       | own q=>
        show q (qH (ze x o.dst v) o) W'
        have:qH (ze x o.dst v) o=v:=by
         unfold qH ze
         cases hd:o.dst with
         | none=>exact(hv hd).symm
         | some d=>simp[upd]
        rw[this];exact hgv
       | far dl q=>
        show q (dl.map (ze x o.dst v)) W'
        have e:dl.map (ze x o.dst v)=dl.map x:=by
         refine List.map_congr_left fun d hd=>?_
         unfold ze
         cases hdo:o.dst with
         | none=>rfl
         | some d'=>
          have:d≠d':=by
           rintro rfl
           obtain⟨e,he,hb,oe,hoe,hod⟩:=jZ hsl hi hgj hd;have h1:=(QW hback hi).2 e.on oe d hoe hdo hod;have h2:=(QW hback hi).1 e he hb;omega
          simp[upd,this]
        rw[e];exact hgv
     ·have hDj:D j=true:=by
       have hb:(j==i)=false:=by rw[beq_eq_false_iff_ne];exact hji
       simpa [setD,hb] using hj
      exact hothers j v W' hji hDj fun g hg'=>Jz hstay hg' (by simpa using hji))
  (fun D x W hR hD=>hend x W (hD s▸hR.1) (by
   have: ∀(m:List Oper) (n:Nat),yd (fun i _=>Yo l gs x W i) n m:=by
    intro m;induction m with
    | nil=>intro n;trivial
    | cons o m ih=>intro n;exact⟨hR.2 n (hD n),ih (n+1)⟩
   exact this l 0))
  l.length (Array.replicate l.length false) (fun d=>a0.tmps.getD d undef) w.drew (by simp) (by
   simp only[Array.toList_replicate,ZB,List.countP_replicate];simp) ⟨by
    have:(Array.replicate l.length false).getD s true=false:=by simp[Lh,hslt]
    show Rb ((Array.replicate l.length false).getD s true) w.drew
    rw[this];exact hw,fun i hi=>by
    have hge: ¬i<l.length:=fun hlt=>by simp[Lh,hlt]at hi
    unfold Yo;rw[List.getElem?_eq_none (l:=l) (by omega)]
    cases gs[i]? with
    | none=>trivial
    | some g=>cases g<;>trivial⟩ (fun j oj hoj hlj=>by
    have hlt:j<l.length:=(List.getElem?_eq_some_iff.1 hoj).1;simp[Lh,hlt]at hlj)
 rw[jh]at H;exact H
theorem gw {a0 A:Act}{x:Tmp→Value}{ds:List Tmp}{gs:List GS}{l:List Oper}{W:World}{after:Array Edge}{v:Value}(hA:jT a0 x ds A)
    (hdep: ∀e∈after,Region.binds .any e=true→Yo l gs x W e.on) (i s:Nat)
    (h1:s∈ds:=by decide) (h2:(⟨i,.data⟩:Edge)∈after:=by simp) (h5:Yo l gs x W i=(x s=v):=by rfl):A.tmps.getD s undef=v:=by
  have:=hdep _ h2 rfl
  rw[h5]at this;exact(hA.1 s h1).trans this
inductive Sp where
 | v (d:Tmp) (u:Value)
 | p (d:Tmp) (q:Value→World→Prop)
 | s (q:World→Prop)
 | f (d:Option Tmp) (ds:List Tmp) (q:List Value→World→Prop)
def Sp.dst:Sp→Option Tmp
 | .v d _=>some d
 | .p d _=>some d
 | .s _=>none
 | .f d _ _=>d
def Sp.says:Sp→Value→World→Prop
 | .v _ u=>fun y _=>y=u
 | .p _ q=>q
 | .s q=>fun _ W=>q W
 | .f _ _ _=>fun _ _=>True
def Sp.gs:Sp→GS
 | .v _ u=> .own fun y _=>y=u
 | .p _ q=> .own q
 | .s q=> .far [] fun _ W=>q W
 | .f _ ds q=> .far ds q
def Q0:List Sp→Act→World→Nat→Prop
 | .v d u::_,A,_,0=>A.tmps.getD d undef=u
 | .p d q::_,A,W,0=>q (A.tmps.getD d undef) W
 | _::l,A,W,n+1=>Q0 l A W n
 | _,_,_,_=>True
def QN (sp:List Sp)(A:Act)(W:World):List Edge→Prop
 | []=>True
 | ⟨i,.data⟩::l=>Q0 sp A W i∧QN sp A W l
 | _::l=>QN sp A W l
def Qw (a0:Act)(x:Tmp→Value):List Sp→Act
 | []=>a0
 | .v d u::l=>(Qw a0 x l).put (some d) u
 | .p d _::l=>(Qw a0 x l).put (some d) (x d)
 | .s _::l=>Qw a0 x l
 | .f (some d) _ _::l=>(Qw a0 x l).put (some d) (x d)
 | .f none _ _::l=>Qw a0 x l
def qaf (x:Tmp→Value)(W:World):List Sp→Prop
 | []=>True
 | .v _ _::l=>qaf x W l
 | .p d q::l=>q (x d) W∧qaf x W l
 | .s q::l=>q W∧qaf x W l
 | .f _ ds q::l=>q (ds.map x) W∧qaf x W l
def qcx:List Sp→Prop
 | []=>True
 | .p _ q::l=>(∀v W W',q v W→Below W.heap.size W W'→q v W')∧qcx l
 | .s q::l=>(∀W W',q W→Below W.heap.size W W'→q W')∧qcx l
 | _::l=>qcx l
def qae:List Sp→Prop
 | []=>True
 | .p _ q::l=>(∀W W',Below W.heap.size W W'→ ∀v,q v W→q v W')∧qae l
 | .s q::l=>(∀W W',Below W.heap.size W W'→q W→q W')∧qae l
 | .f _ _ q::l=>(∀W W',Below W.heap.size W W'→ ∀v,q v W→q v W')∧qae l
 | _::l=>qae l
theorem zF: ∀{sp:List Sp},qcx sp→qdO (sp.map Sp.says)
 | [],_=>trivial
 | .v _ _::_,h=>⟨fun _ _ _ h _=>h,zF h⟩
 | .p _ _::_,h=>⟨h.1,zF h.2⟩
 | .s _::_,h=>⟨fun _ W W'=>h.1 W W',zF h.2⟩
 | .f _ _ _::_,h=>⟨fun _ _ _ h _=>h,zF h⟩
theorem zG: ∀{sp:List Sp},qae sp→qdP (sp.map Sp.gs)
 | [],_=>trivial
 | .v _ _::_,h=>⟨fun _ _ _ _ h=>h,zG h⟩
 | .p _ _::_,h=>⟨h.1,zG h.2⟩
 | .s _::_,h=>⟨fun W W' hb _=>h.1 W W' hb,zG h.2⟩
 | .f _ _ _::_,h=>⟨h.1,zG h.2⟩
theorem jM {sp:List Sp}{i:Nat}{s:Sp}(h:sp[i]? =some s)(v:Value)(W:World):QB (sp.map Sp.says) i v W=s.says v W:=by
 unfold QB;rw[List.getElem?_map,h];rfl
theorem qaU {sp:List Sp}{init:List Oper}{x:Tmp→Value}{i:Nat}{s:Sp}{o:Oper}(h:sp[i]? =some s)(ho:init[i]? =some o)(W:World):
  Yo init (sp.map Sp.gs) x W i=match s.gs with| .own q=>q (qH x o) W| .far ds q=>q (ds.map x) W:=by
 unfold Yo;rw[List.getElem?_map,h,ho]
 cases s<;>rfl
theorem qbB {sp:List Sp}{init:List Oper}(hl:init.map (·.dst)=sp.map Sp.dst){i:Nat}{o:Oper}(ho:init[i]? =some o): ∃s,sp[i]? =some s∧s.dst=o.dst:=by
 have h:=congrArg (fun l:List (Option Tmp)=>l[i]?) hl;simp only[List.getElem?_map,ho,Option.map_some]at h
 cases hs:sp[i]? with
 | none=>rw[hs]at h;cases h
 | some s=>rw[hs]at h;exact⟨s,rfl,by simpa using h.symm⟩
theorem Zn: ∀{sp:List Sp} {A:Act} {W:World} {i:Nat},(∀d u,sp[i]? =some (.v d u)→A.tmps.getD d undef=u)→(∀d q,sp[i]? =some (.p d q)→q (A.tmps.getD d undef) W)→Q0 sp A W i
 | [],_,_,0,_,_=>trivial
 | [],_,_,_+1,_,_=>trivial
 | .v _ _::_,_,_,0,h,_=>h _ _ rfl
 | .p _ _::_,_,_,0,_,h=>h _ _ rfl
 | .s _::_,_,_,0,_,_=>trivial
 | .f _ _ _::_,_,_,0,_,_=>trivial
 | .v _ _::l,A,W,i+1,h,k=>Zn (sp:=l) (A:=A) (W:=W) (i:=i) (fun d u e=>h d u (by simpa using e)) (fun d q e=>k d q (by simpa using e))
 | .p _ _::l,A,W,i+1,h,k=>Zn (sp:=l) (A:=A) (W:=W) (i:=i) (fun d u e=>h d u (by simpa using e)) (fun d q e=>k d q (by simpa using e))
 | .s _::l,A,W,i+1,h,k=>Zn (sp:=l) (A:=A) (W:=W) (i:=i) (fun d u e=>h d u (by simpa using e)) (fun d q e=>k d q (by simpa using e))
 | .f _ _ _::l,A,W,i+1,h,k=>Zn (sp:=l) (A:=A) (W:=W) (i:=i) (fun d u e=>h d u (by simpa using e)) (fun d q e=>k d q (by simpa using e))
theorem YV {sp:List Sp}{A:Act}{W:World}: ∀(l:List Edge),(∀e∈l,Region.binds .any e=true→Q0 sp A W e.on)→QN sp A W l
 | [],_=>trivial
 | ⟨_,.data⟩::l,h=>⟨h _ (List.mem_cons_self ..) rfl,YV l (fun e he=>h e (List.mem_cons_of_mem _ he))⟩
 | ⟨_,.chain⟩::l,h=>YV l (fun e he=>h e (List.mem_cons_of_mem _ he))
 | ⟨_,.guard⟩::l,h=>YV l (fun e he=>h e (List.mem_cons_of_mem _ he))
 | ⟨_,.phase⟩::l,h=>YV l (fun e he=>h e (List.mem_cons_of_mem _ he))
 | ⟨_,.textOnly _⟩::l,h=>YV l (fun e he=>h e (List.mem_cons_of_mem _ he))
 | ⟨_,.gcOnly _⟩::l,h=>YV l (fun e he=>h e (List.mem_cons_of_mem _ he))
theorem Js {init:List Oper}{i:Nat}{o:Oper}{d:Tmp}(h:init[i]? =some o)(hd:o.dst=some d):d∈init.filterMap (·.dst):=List.mem_filterMap.2 ⟨o,List.mem_of_getElem? h,hd⟩
theorem qdd (a0:Act){x:Tmp→Value}: ∀{sp:List Sp} {init:List Oper},init.map (·.dst)=sp.map Sp.dst→(∀(i:Nat) (d:Tmp) (u:Value),sp[i]? =some (.v d u)→x d=u)→lay a0 x (init.filterMap (·.dst))=Qw a0 x sp
 | [],[],_,_=>rfl
 | [],_::_,h,_=>by simp at h
 | _::_,[],h,_=>by simp at h
 | s::sp,o::init,h,hv=>by
  simp only[List.map_cons,List.cons.injEq]at h;have ih:=qdd a0 (x:=x) h.2 (fun i d u e=>hv (i+1) d u (by simpa using e))
  cases s with
  | v d u=>
   have hd:o.dst=some d:=h.1;rw[List.filterMap_cons,hd];show(lay a0 x (init.filterMap _)).put (some d) (x d)=(Qw a0 x sp).put (some d) u
   rw[ih,hv 0 d u rfl]
  | p d q=>
   have hd:o.dst=some d:=h.1;rw[List.filterMap_cons,hd];show(lay a0 x (init.filterMap _)).put (some d) (x d)=(Qw a0 x sp).put (some d) (x d)
   rw[ih]
  | s q=>
   have hd:o.dst=none:=h.1;rw[List.filterMap_cons,hd];exact ih
  | f d ds q=>
   cases d with
   | none=>
    have hd:o.dst=none:=h.1;rw[List.filterMap_cons,hd];exact ih
   | some d=>
    have hd:o.dst=some d:=h.1;rw[List.filterMap_cons,hd];show(lay a0 x (init.filterMap _)).put (some d) (x d)=(Qw a0 x sp).put (some d) (x d)
    rw[ih]
theorem Zu {x:Tmp→Value}{W:World}: ∀{sp:List Sp},(∀(i:Nat) (s:Sp),sp[i]? =some s→match s with| .v _ _=>True| .p d q=>q (x d) W| .s q=>q W| .f _ ds q=>q (ds.map x) W)→qaf x W sp
 | [],_=>trivial
 | .v _ _::l,h=>Zu (sp:=l) (fun i s e=>h (i+1) s (by simpa using e))
 | .p _ _::l,h=>⟨h 0 _ rfl,Zu (sp:=l) (fun i s e=>h (i+1) s (by simpa using e))⟩
 | .s _::l,h=>⟨h 0 _ rfl,Zu (sp:=l) (fun i s e=>h (i+1) s (by simpa using e))⟩
 | .f _ _ _::l,h=>⟨h 0 _ rfl,Zu (sp:=l) (fun i s e=>h (i+1) s (by simpa using e))⟩
theorem Ye: ∀{init:List Oper} {sp:List Sp},init.map (·.dst)=sp.map Sp.dst→init.filterMap (·.dst)=sp.filterMap Sp.dst
 | [],[],_=>rfl
 | [],_::_,h=>by simp at h
 | _::_,[],h=>by simp at h
 | o::init,s::sp,h=>by
  simp only[List.map_cons,List.cons.injEq]at h;have ih:=Ye h.2;rw[List.filterMap_cons,List.filterMap_cons,h.1,ih]
theorem depL {sp:List Sp}{init:List Oper}{a0 A:Act}{x:Tmp→Value}{ds:List Tmp}{W:World}{after:Array Edge}(hds:init.filterMap (·.dst)=ds)(hl:init.map (·.dst)=sp.map Sp.dst)(hin: ∀e∈after,e.on<init.length)(hA:jT a0 x ds A)
  (hdep: ∀e∈after,Region.binds .any e=true→ ∀oe,init[e.on]? =some oe→QB (sp.map Sp.says) e.on (qH x oe) W):QN sp A W after.toList:=by
 subst hds;refine YV _ fun e he hb=>?_
 have he:e∈after:=Array.mem_toList_iff.1 he;obtain⟨oe,hoe⟩: ∃oe,init[e.on]? =some oe:=⟨_,List.getElem?_eq_getElem (hin e he)⟩;obtain⟨s,hs,hsd⟩:=qbB hl hoe;have hg:=hdep e he hb oe hoe;rw[jM hs]at hg;refine Zn (fun d u e2=>?_) (fun d q e2=>?_)
 ·rw[hs]at e2;obtain rfl:=Option.some.inj e2;have hd:oe.dst=some d:=hsd.symm;rw[hA.1 d (Js hoe hd)];have:qH x oe=x d:=by unfold qH;rw[hd]
  rw[←this];exact hg
 ·rw[hs]at e2;obtain rfl:=Option.some.inj e2;have hd:oe.dst=some d:=hsd.symm;rw[hA.1 d (Js hoe hd)];have:qH x oe=x d:=by unfold qH;rw[hd]
  rw[←this];exact hg
theorem endL {sp:List Sp}{init:List Oper}{a0:Act}{x:Tmp→Value}{W:World}(hl:init.map (·.dst)=sp.map Sp.dst)(hnf:(sp.all fun s=>match s with| .f _ _ _=>false|_=>true)=true)
  (h:yd (fun i o=>QB (sp.map Sp.says) i (qH x o) W) 0 init):qaf x W sp∧lay a0 x (init.filterMap (·.dst))=Qw a0 x sp:=by
 have hs: ∀(i:Nat) (s:Sp),sp[i]? =some s→ ∃o,init[i]? =some o∧o.dst=s.dst∧s.says (qH x o) W:=fun i s hi=>by
  have h1:=congrArg (fun l:List (Option Tmp)=>l[i]?) hl;simp only[List.getElem?_map,hi,Option.map_some]at h1
  cases ho:init[i]? with
  | none=>rw[ho]at h1;cases h1
  | some o=>
   rw[ho]at h1;have hg:=Ya h i o ho;rw[jM hi]at hg;exact⟨o,rfl,by simpa using h1,hg⟩
 refine⟨Zu fun i s hi=>?_,qdd a0 hl fun i d u hi=>?_⟩
 ·obtain⟨o, -,hd,hg⟩:=hs i s hi
  cases s with
  | v d u=>trivial
  | p d q=>
   have:qH x o=x d:=by unfold qH;rw[hd];rfl
   show q (x d) W
   rw[←this];exact hg
  | s q=>exact hg
  | f d ds q=>exact absurd (List.all_eq_true.1 hnf _ (List.mem_of_getElem? hi)) (by simp)
 ·obtain⟨o, -,hd,hg⟩:=hs i _ hi;have:qH x o=x d:=by unfold qH;rw[hd];rfl
  rw[←this];exact hg
def J9 (l:List Oper):Bool:=l.all fun o=>o.after.all fun e=>decide (e.on<l.length)
theorem Zb {l:List Oper}(h:J9 l=true){i:Nat}{o:Oper}(hi:l[i]? =some o): ∀e∈o.after,e.on<l.length:=fun e he=>
 of_decide_eq_true (Array.all_eq_true'.1 (List.all_eq_true.1 h o (List.mem_of_getElem? hi)) e he)
def StepC (P:Program)(init:List Oper)(ds:List Tmp)(a0:Act)(B:Nat)(w0:World)(sp:List Sp)(Q:Exit→Act→World→Prop)(i:Nat)(o:Oper):Prop:=
 ∀(A:Act) (x:Tmp→Value) (W:World),jT a0 x ds A→Below B w0 W→B≤W.heap.size→(∀e∈o.after,Region.binds .any e=true→ ∀oe,init[e.on]? =some oe→QB (sp.map Sp.says) e.on (qH x oe) W)→QN sp A W o.after.toList→
  ∀K:Act→World→Prop,(∀v W',Below W.heap.size W W'→QB (sp.map Sp.says) i v W'→K (A.put o.dst v) W')→Oper.wp P o A W K Q
theorem Zw {p q:Nat→Oper→Prop}(l:List Oper): ∀(n:Nat) (m:List Oper),(∀i o,m[i]? =some o→p (n+i) o→q (n+i) o)→yd p n m→yd q n m
 | _,[],_,_=>trivial
 | n,o::m,h,k=>⟨h 0 o rfl k.1,Zw l (n+1) m (fun i o' hi hp=>by
   rw[show n+1+i=n+(i+1) by omega]at hp⊢;exact h (i+1) o' (by simpa using hi) hp) k.2⟩
theorem qy {P:Program}{id:Nat}{w w0:World}{Q:Exit→Act→World→Prop}{a0:Act}{B:Nat}{l init tail:List Oper}{n:Nat}{ds:List Tmp}(sp:List Sp)(hst:qcx sp)(hw:Below B w0 w.drew)(hB:B≤w0.heap.size)
  (hstep:yd (StepC P init ds a0 B w0 sp (Qe P init tail Q)) 0 init)
  (hend: ∀(x:Tmp→Value) (W:World),Below B w0 W→B≤W.heap.size→qaf x W sp→Qe P init tail Q .normal (Qw a0 x sp) W)
  (hi:l.take n=init:=by dsimp only[List.take]) (ht:l.drop n=tail:=by dsimp only[List.drop]) (hds:sp.filterMap Sp.dst=ds:=by dsimp only[List.filterMap,Sp.dst]) (hl:init.map (·.dst)=sp.map Sp.dst:=by rfl)
  (hsz:(ds.all fun d=>decide (d<a0.tmps.size))=true:=by rfl) (hnd:ds.Nodup:=by decide) (hback:Yb init=true:=by kernel_rfl)
  (hg:(init.all fun o=>o.guard.isNone&&o.dst.isSome)=true:=by rfl) (hb:Z7 .any init tail=true:=by kernel_rfl) (hbi:J9 init=true:=by kernel_rfl) (hm:P.follows .mixedOrders=true:=by kernel_rfl)
  (hnf:(sp.all fun s=>match s with| .f _ _ _=>false|_=>true)=true:=by rfl):
  (Code.region id l.toArray true).wp P Q a0 w:=by
 have hds':init.filterMap (·.dst)=ds:=(Ye hl).trans hds;refine Jk (n:=n) (w0:=w0) (B:=B) ds (sp.map Sp.says) hi ht hds' hsz hnd hback hg hb hm hw hB (zF hst) ?_ ?_
 ·refine Zw init 0 init (fun i o ho h=>?_) hstep;rw[Nat.zero_add]at h⊢;exact fun A x W hA hW hBW hdep K hK=>h A x W hA hW hBW hdep (depL hds' hl (Zb hbi ho) hA hdep) K hK
 ·intro x W hW hBW hall;obtain⟨h1,h2⟩:=endL (a0:=a0) hl hnf hall;rw[hds']at h2;rw[h2];exact hend x W hW hBW h1
def qgv (P:Program)(init:List Oper)(ds:List Tmp)(a0:Act)(R:World→Prop)(sp:List Sp)(Q:Exit→Act→World→Prop)(i:Nat)(o:Oper):Prop:=
 ∀(A:Act) (x:Tmp→Value) (W:World),jT a0 x ds A→R W→(∀e∈o.after,Region.binds .any e=true→ ∀oe,init[e.on]? =some oe→QB (sp.map Sp.says) e.on (qH x oe) W)→QN sp A W o.after.toList→
  ∀K:Act→World→Prop,(∀v W',R W'→(∀j u,j≠i→QB (sp.map Sp.says) j u W→QB (sp.map Sp.says) j u W')→QB (sp.map Sp.says) i v W'→K (A.put o.dst v) W')→Oper.wp P o A W K Q
theorem Z4 {P:Program}{id:Nat}{w:World}{Q:Exit→Act→World→Prop}{a0:Act}{l init tail:List Oper}{n:Nat}{ds:List Tmp}(R:World→Prop)(sp:List Sp)(hw:R w.drew)
  (hstep:yd (qgv P init ds a0 R sp (Qe P init tail Q)) 0 init)
  (hend: ∀(x:Tmp→Value) (W:World),R W→qaf x W sp→Qe P init tail Q .normal (Qw a0 x sp) W)
  (hi:l.take n=init:=by dsimp only[List.take]) (ht:l.drop n=tail:=by dsimp only[List.drop]) (hds:sp.filterMap Sp.dst=ds:=by dsimp only[List.filterMap,Sp.dst]) (hl:init.map (·.dst)=sp.map Sp.dst:=by rfl)
  (hsz:(ds.all fun d=>decide (d<a0.tmps.size))=true:=by rfl) (hnd:ds.Nodup:=by decide) (hback:Yb init=true:=by kernel_rfl)
  (hg:(init.all fun o=>o.guard.isNone)=true:=by rfl) (hb:Z7 .any init tail=true:=by kernel_rfl) (hbi:J9 init=true:=by kernel_rfl) (hm:P.follows .mixedOrders=true:=by kernel_rfl)
  (hnf:(sp.all fun s=>match s with| .f _ _ _=>false|_=>true)=true:=by rfl):
  (Code.region id l.toArray true).wp P Q a0 w:=by
 have hds':init.filterMap (·.dst)=ds:=(Ye hl).trans hds;refine qah (n:=n) R ds (sp.map Sp.says) hi ht hds' hsz hnd hback hg hb hm hw ?_ ?_ ?_
 ·have: ∀(m:List Oper) (n:Nat),(∀i o,m[i]? =some o→init[n+i]? =some o)→yd (fun i o=>o.dst=none→ ∀v W,QB (sp.map Sp.says) i v W→QB (sp.map Sp.says) i undef W) n m:=by
   intro m;induction m with
   | nil=>intro n _;trivial
   | cons o m ih=>
    intro n h;refine⟨fun hd v W hg=>?_,ih (n+1) (fun i o' hi=>by rw[show n+1+i=n+(i+1) by omega];exact h (i+1) o' (by simpa using hi))⟩;have h0:init[n]? =some o:=h 0 o rfl;obtain⟨s,hs,hsd⟩:=qbB hl h0;rw[jM hs]at hg⊢
    cases s with
    | v d u=>rw[hd]at hsd;cases hsd
    | p d q=>rw[hd]at hsd;cases hsd
    | s q=>exact hg
    | f d ds q=>trivial
  exact this init 0 (fun i o hi=>by rw[Nat.zero_add];exact hi)
 ·refine Zw init 0 init (fun i o ho h=>?_) hstep;rw[Nat.zero_add]at h⊢;exact fun A x W hA hR hdep K hK=>h A x W hA hR hdep (depL hds' hl (Zb hbi ho) hA hdep) K hK
 ·intro x W hR hall;obtain⟨h1,h2⟩:=endL (a0:=a0) hl hnf hall;rw[hds']at h2;rw[h2];exact hend x W hR h1
theorem depG {sp:List Sp}{init:List Oper}{a0 A:Act}{x:Tmp→Value}{ds:List Tmp}{W:World}{after:Array Edge}(hds:init.filterMap (·.dst)=ds)(hl:init.map (·.dst)=sp.map Sp.dst)(hin: ∀e∈after,e.on<init.length)(hA:jT a0 x ds A)
  (hdep: ∀e∈after,Region.binds .any e=true→Yo init (sp.map Sp.gs) x W e.on):QN sp A W after.toList:=by
 subst hds;refine YV _ fun e he hb=>?_
 have he:e∈after:=Array.mem_toList_iff.1 he;obtain⟨oe,hoe⟩: ∃oe,init[e.on]? =some oe:=⟨_,List.getElem?_eq_getElem (hin e he)⟩;obtain⟨s,hs,hsd⟩:=qbB hl hoe;have hg:=hdep e he hb;rw[qaU hs hoe]at hg;refine Zn (fun d u e2=>?_) (fun d q e2=>?_)
 ·rw[hs]at e2;obtain rfl:=Option.some.inj e2;have hd:oe.dst=some d:=hsd.symm;rw[hA.1 d (Js hoe hd)];have:qH x oe=x d:=by unfold qH;rw[hd]
  rw[←this];exact hg
 ·rw[hs]at e2;obtain rfl:=Option.some.inj e2;have hd:oe.dst=some d:=hsd.symm;rw[hA.1 d (Js hoe hd)];have:qH x oe=x d:=by unfold qH;rw[hd]
  rw[←this];exact hg
theorem endG {sp:List Sp}{init:List Oper}{a0:Act}{x:Tmp→Value}{W:World}(hl:init.map (·.dst)=sp.map Sp.dst)
  (h:yd (fun i _=>Yo init (sp.map Sp.gs) x W i) 0 init):qaf x W sp∧lay a0 x (init.filterMap (·.dst))=Qw a0 x sp:=by
 have hs: ∀(i:Nat) (s:Sp),sp[i]? =some s→ ∃o,o.dst=s.dst∧(match s.gs with| .own q=>q (qH x o) W| .far ds q=>q (ds.map x) W):=fun i s hi=>by
  have h1:=congrArg (fun l:List (Option Tmp)=>l[i]?) hl;simp only[List.getElem?_map,hi,Option.map_some]at h1
  cases ho:init[i]? with
  | none=>rw[ho]at h1;cases h1
  | some o=>
   rw[ho]at h1;have hg:=Ya h i o ho;rw[qaU hi ho]at hg;exact⟨o,by simpa using h1,hg⟩
 refine⟨Zu fun i s hi=>?_,qdd a0 hl fun i d u hi=>?_⟩
 ·obtain⟨o,hd,hg⟩:=hs i s hi
  cases s with
  | v d u=>trivial
  | p d q=>
   have:qH x o=x d:=by unfold qH;rw[hd];rfl
   show q (x d) W
   rw[←this];exact hg
  | s q=>exact hg
  | f d ds q=>exact hg
 ·obtain⟨o,hd,hg⟩:=hs i _ hi;have:qH x o=x d:=by unfold qH;rw[hd];rfl
  rw[←this];exact hg
def Sp.isOwn:Sp→Bool
 | .v _ _=>true
 | .p _ _=>true
 | _=>false
def qee:List Sp→Nat→Nat→Bool
 | [],_,_=>true
 | x::l,n,s=>(n==s||x.isOwn)&&qee l (n+1) s
theorem qdE: ∀{sp:List Sp} {n s:Nat},qee sp n s=true→ ∀{j:Nat} {x:Sp},sp[j]? =some x→n+j≠s→x.isOwn=true
 | [],_,_,_,j,x,h,_=>by simp at h
 | y::_,n,s,h,0,x,hx,hne=>by
  simp only[qee,Bool.and_eq_true,Bool.or_eq_true,beq_iff_eq]at h;simp at hx;subst hx
  exact h.1.resolve_left (by simpa using hne)
 | y::l,n,s,h,j+1,x,hx,hne=>by
  simp only[qee,Bool.and_eq_true]at h;exact qdE (sp:=l) h.2 (by simpa using hx) (by omega)
def qfE (P:Program)(l:List Oper)(ds:List Tmp)(a0:Act)(Rb:Bool→World→Prop)(s:Nat)(sp:List Sp)(i:Nat)(Q:Exit→Act→World→Prop)(o:Oper):Prop:=
 ∀(A:Act) (x:Tmp→Value) (W:World) (f:Bool),jT a0 x ds A→Rb f W→(ZS l s i=true→f=false)→(∀e∈o.after,Region.binds .any e=true→Yo l (sp.map Sp.gs) x W e.on)→QN sp A W o.after.toList→
  ∀K:Act→World→Prop,(∀v W',Below W.heap.size W W'→qgp (sp.map Sp.gs) i v W'→K (A.put o.dst v) W')→Oper.wp P o A W K Q
theorem Yc {P:Program}{id:Nat}{w:World}{Q:Exit→Act→World→Prop}{a0:Act}{L l tail:List Oper}{n:Nat}{ds:List Tmp}{o:Oper}(Rb:Bool→World→Prop)(s:Nat)(sp:List Sp)(hst:qae sp)(hw:Rb false w.drew)(hRb: ∀f W W',Rb f W→Below W.heap.size W W'→Rb f W')
  (hstep:yd (fun i o=>i=s∨qfE P l ds a0 Rb s sp i (Qe P l tail Q) o) 0 l)
  (hstore:qfD P l ds a0 Rb s (sp.map Sp.gs) (Qe P l tail Q) o)
  (hend: ∀(x:Tmp→Value) (W:World),Rb true W→qaf x W sp→Qe P l tail Q .normal (Qw a0 x sp) W)
  (hi:L.take n=l:=by dsimp only[List.take]) (ht:L.drop n=tail:=by dsimp only[List.drop]) (htl:Z7 .any l tail=true:=by kernel_rfl) (hds:sp.filterMap Sp.dst=ds:=by dsimp only[List.filterMap,Sp.dst]) (hl:l.map (·.dst)=sp.map Sp.dst:=by rfl)
  (hsz:(ds.all fun d=>decide (d<a0.tmps.size))=true:=by rfl) (hnd:ds.Nodup:=by decide) (hback:Yb l=true:=by kernel_rfl) (hg:(l.all fun o=>o.guard.isNone)=true:=by rfl) (hsl:qa7 l (sp.map Sp.gs)=true:=by kernel_rfl)
  (ho:l[s]? =some o:=by rfl) (hown:qee sp 0 s=true:=by rfl) (hbi:J9 l=true:=by kernel_rfl) (hm:P.follows .mixedOrders=true:=by kernel_rfl):
  (Code.region id L.toArray true).wp P Q a0 w:=by
 have hds':l.filterMap (·.dst)=ds:=(Ye hl).trans hds;have hs:s<l.length:=(List.getElem?_eq_some_iff.1 ho).1;refine Jw hi ht htl Rb s ds (sp.map Sp.gs) hds' hsz hnd hback hg hsl hs hm hw hRb (zG hst) ?_ ?_
 ·refine Zw l 0 l (fun i o' ho' h=>?_) hstep;rw[Nat.zero_add]at h⊢;by_cases his:i=s
  ·subst his;rw[ho]at ho';obtain rfl:=Option.some.inj ho';exact .inr ⟨rfl,hstore⟩
  ·refine .inl ⟨?_,fun A x W f hA hR hf hdep K hK=>h.resolve_left his A x W f hA hR hf hdep (depG hds' hl (Zb hbi ho') hA hdep) K hK⟩;obtain⟨x,hx,hxd⟩:=qbB hl ho';have hx1:=qdE hown hx (by rw[Nat.zero_add];exact his);unfold qgq;rw[List.getElem?_map,hx]
   cases x with
   | v d u=>simp[Sp.gs,his,←hxd,Sp.dst]
   | p d q=>simp[Sp.gs,his,←hxd,Sp.dst]
   | s q=>cases hx1
   | f d ds q=>cases hx1
 ·intro x W hR hall;obtain⟨h1,h2⟩:=endG (a0:=a0) hl hall;rw[hds']at h2;rw[h2];exact hend x W hR h1
theorem QP {P:Program}{id:Nat}{w:World}{Q:Exit→Act→World→Prop}{a0:Act}{l:List Oper}{ds:List Tmp}{o:Oper}(Rb:Bool→World→Prop)(s:Nat)(sp:List Sp)(hst:qae sp)(hw:Rb false w.drew)(hRb: ∀f W W',Rb f W→Below W.heap.size W W'→Rb f W')
  (hstep:yd (fun i o=>i=s∨qfE P l ds a0 Rb s sp i Q o) 0 l)
  (hstore:qfD P l ds a0 Rb s (sp.map Sp.gs) Q o)
  (hend: ∀(x:Tmp→Value) (W:World),Rb true W→qaf x W sp→Q .normal (Qw a0 x sp) W)
  (hds:sp.filterMap Sp.dst=ds:=by dsimp only[List.filterMap,Sp.dst]) (hl:l.map (·.dst)=sp.map Sp.dst:=by rfl)
  (hsz:(ds.all fun d=>decide (d<a0.tmps.size))=true:=by rfl) (hnd:ds.Nodup:=by decide) (hback:Yb l=true:=by kernel_rfl) (hg:(l.all fun o=>o.guard.isNone)=true:=by rfl) (hsl:qa7 l (sp.map Sp.gs)=true:=by kernel_rfl)
  (ho:l[s]? =some o:=by rfl) (hown:qee sp 0 s=true:=by rfl) (hbi:J9 l=true:=by kernel_rfl) (hm:P.follows .mixedOrders=true:=by kernel_rfl):
  (Code.region id l.toArray true).wp P Q a0 w:=
 Yc (n:=l.length) (l:=l) (tail:=[]) Rb s sp hst hw hRb hstep hstore hend (by simp) (by simp) rfl hds hl hsz hnd hback hg hsl ho hown hbi hm
end Go.Proofs.YtdndeffmlhaipaaGreatDoor
