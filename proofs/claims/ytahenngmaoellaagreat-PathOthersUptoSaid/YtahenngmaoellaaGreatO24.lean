/- Lemmas. No condition. -/
import Derived.Test.YtahenngmaoellaaGreatO21
import Derived.Test.YtahenngmaoellaaGreatO14
import Derived.Test.YtahenngmaoellaaGreatO02
set_option linter.all false
set_option maxRecDepth 100000
set_option maxHeartbeats 0
namespace Go.Proofs.YtahenngmaoellaaGreat
open Go Go.RowKit
variable{P:Program}{o:Oper}{a a0 A:Act}{Q:Exit->Act->World->Prop}{p:Nat->Oper->Prop}{n id B i j:Nat}{l q tail r L:List Oper}{x:Tmp->Value}{ds:List Tmp}{w0 W:World}{v:Value}{d:Tmp}
theorem Zl {w:World}{K:Act->World->Prop}(t:TypeId)(q:Array (Nat×Operand))(G:o.op= .build t q)(r:Array Value)
  (D:P.built t (q.map fun(i,x)=>(i,a.eval x)).toList=some r) (h:K (a.put o.dst (.agg r)) w):o.wp P a w K Q:=
 wp_build t q G (by rw[D];rfl) (by rw[D];exact h)
def yG (p:Nat->Oper->Prop):Nat->List Oper->Prop
 | _,[]=>True
 | n,o::l=>p n o/\yG p (n+1) l
theorem qx (h:p n o)(q:yG p (n+1) l):yG p n (o::l):=⟨h,q⟩
theorem qz :yG p n []:=trivial
theorem qfv {p:Nat->Oper->Prop}: ∀(l:List Oper) (n:Nat),yG p n l-> ∀i o,l[i]? =some o->p (n+i) o
 | [],_,_,i,o,hi=>by simp at hi
 | _::_,n,h,0,o,hi=>by simp at hi;subst hi;exact h.1
 | _::l,n,h,i+1,o,hi=>by
  have:=qfv l (n+1) h.2 i o (by simpa using hi)
  rw[show n+(i+1)=n+1+i by omega];exact this
theorem YO (h:yG p 0 l): ∀i o,l[i]? =some o->p i o:=fun i o hi=>by
 have:=qfv l 0 h i o hi
 rwa[Nat.zero_add]at this
def QQ (gs:List (Value->World->Prop))(i:Nat)(v:Value)(W:World):Prop:=match gs[i]? with
 | some g=>g v W
 | none=>True
def qhm:List (Value->World->Prop)->Prop
 | []=>True
 | g::gs=>(∀v W W',g v W->Below W.heap.size W W'->g v W')/\qhm gs
theorem qcl: ∀{gs:List (Value->World->Prop)},qhm gs-> ∀{i:Nat} {v:Value} {W W':World},QQ gs i v W->Below W.heap.size W W'->QQ gs i v W'
 | [],_,i,v,W,W',_,_=>by unfold QQ;simp
 | g::gs,h,0,v,W,W',hg,hb=>h.1 v W W' hg hb
 | g::gs,h,i+1,v,W,W',hg,hb=>by
  have:=qcl (gs:=gs) h.2 (i:=i) (v:=v) (W:=W) (W':=W') (by unfold QQ at hg⊢;simpa using hg) hb
  unfold QQ at this⊢;simpa using this
def jn (md:Region.Mode):List Oper->List Oper->Bool
 | _,[]=>true
 | init,o::t=>qaE md init o init.length&&qdx md init&&jn md (init++[o]) t
def Qa (P:Program):List Oper->List Oper->(Exit->Act->World->Prop)->Exit->Act->World->Prop
 | _,[],Q=>Q
 | init,o::t,Q=>qan P (init++[o]).toArray o (Qa P (init++[o]) t Q)
theorem qt {t:List Oper}{w:World}(h:wpList P (q++[o]).toArray (Qa P (q++[o]) t Q) [o] a w):Qa P q (o::t) Q .normal a w:=h
theorem qw {o:List Oper}{w:World}(h:Q .normal a w):Qa P o [] Q .normal a w:=h
theorem z7 {P:Program}{md:Region.Mode}{Q:Exit->Act->World->Prop}{a:Act}{w:World}: ∀(tail q:List Oper),jn md q tail=true->
  wpAny P md q.toArray (Qa P q tail Q) q.length (Array.replicate q.length false) a w->wpAny P md (q++tail).toArray Q (q.length+tail.length) (Array.replicate (q.length+tail.length) false) a w
 | [],q,_,h=>by simpa [Qa] using h
 | o::t,q,hb,h=>by
  simp only[jn,Bool.and_eq_true]at hb;have J:=z7 (P:=P) (Q:=Q) (a:=a) (w:=w) t (q++[o]) hb.2 (by
   have r:(q++[o]).toArray=q.toArray.push o:=by simp
   have I:(q++[o]).length=q.length+1:=by simp
   have S:Array.replicate (q.length+1) false=(Array.replicate q.length false).push false:=by
    rw[Array.replicate_succ]
   rw[I,S,r];refine JE (by simpa using hb.1.1) (by simpa using hb.1.2) _ _ _ _ (by simp) ?_ (by rw[<-r];exact h);intro j U O G;exfalso
   have D:=(Ai O).1;simp only[List.size_toArray]at D;rw[Lh,Array.getElem?_replicate,if_pos D]at G
   cases G)
  have r:q++[o]++t=q++o::t:=by simp
  have I:(q++[o]).length+t.length=q.length+(o::t).length:=by simp;omega
  rw[r,I]at J;exact J
theorem qff (a0:Act)(x:Tmp->Value): ∀ds,(lay a0 x ds).tmps.size=a0.tmps.size
 | []=>rfl
 | d::ds=>by
  show((lay a0 x ds).put (some d) (x d)).tmps.size=_
  simp[Act.put,qff a0 x ds]
theorem qhc (a0:Act)(x:Tmp->Value){d:Tmp}: ∀ds,d∉ds->(lay a0 x ds).tmps.getD d undef=a0.tmps.getD d undef
 | [],_=>rfl
 | e::ds,h=>by
  show((lay a0 x ds).put (some e) (x e)).tmps.getD d undef=_
  have q:e≠d:=fun o=>h (by simp[o])
  rw[<-qhc a0 x ds (fun o=>h (by simp[o]))];simp[Act.put,Lh,Array.getElem?_setIfInBounds,q]
theorem qi2 (a0:Act)(x:Tmp->Value){d:Tmp}(r:d<a0.tmps.size): ∀ds,d∈ds->(lay a0 x ds).tmps.getD d undef=x d
 | e::ds,h=>by
  show((lay a0 x ds).put (some e) (x e)).tmps.getD d undef=_
  by_cases q:e=d
  ·subst q;have D:e<(lay a0 x ds).tmps.size:=by rw[qff];exact r
   simp[Act.put,Lh,Array.getElem?_setIfInBounds,D]
  ·have o:d∈ds:=by
    rcases List.mem_cons.1 h with o|o
    ·exact absurd o.symm q
    ·exact o
   rw[<-qi2 a0 x r ds o];simp[Act.put,Lh,Array.getElem?_setIfInBounds,q]
def ZR (a0:Act)(x:Tmp->Value)(ds:List Tmp)(A:Act):Prop:=(∀d,d∈ds->A.tmps.getD d undef=x d)/\ ∀d,d∉ds->A.tmps.getD d undef=a0.tmps.getD d undef
theorem J9 (h: ∀d∈ds,d<a0.tmps.size):ZR a0 x ds (lay a0 x ds):=⟨fun d o=>qi2 a0 x (h d o) ds o,fun d o=>qhc a0 x ds o⟩
def StepO (P:Program)(init:List Oper)(ds:List Tmp)(a0:Act)(B:Nat)(w0:World)(gs:List (Value->World->Prop))(Q:Exit->Act->World->Prop)(i:Nat)(o:Oper):Prop:=
 ∀(A:Act) (x:Tmp->Value) (W:World),ZR a0 x ds A->Below B w0 W->B<=W.heap.size->(∀e∈o.after,Region.binds .any e=true-> ∀oe,init[e.on]? =some oe->QQ gs e.on (qM x oe) W)->
  ∀K:Act->World->Prop,(∀v W',Below W.heap.size W W'->QQ gs i v W'->K (A.put o.dst v) W')->Oper.wp P o A W K Q
theorem qbm {w:World}(ds:List Tmp)(gs:List (Value->World->Prop))(hi:l.take n=q)(ht:l.drop n=tail)(ac:q.filterMap (·.dst)=ds)(af:(ds.all fun d=>decide (d<a0.tmps.size))=true)(aa:ds.Nodup)(I:YP q=true)
  (hg:(q.all fun o=>o.guard.isNone&&o.dst.isSome)=true) (hb:jn .any q tail=true) (hm:P.follows .mixedOrders=true) (hw:Below B w0 w.drew) (Z:B<=w0.heap.size) (ab:qhm gs)
  (J:yG (StepO P q ds a0 B w0 gs (Qa P q tail Q)) 0 q)
  (Y: ∀(x:Tmp->Value) (W:World),Below B w0 W->B<=W.heap.size->yG (fun i o=>QQ gs i (qM x o) W) 0 q->Qa P q tail Q .normal (lay a0 x ds) W):
  (Code.region id l.toArray true).wp P Q a0 w:=by
 have V:l=q++tail:=by rw[<-hi,<-ht];exact(List.take_append_drop _ _).symm
 clear hi ht;subst V;subst ac;have G:=fun o r=>List.all_eq_true.1 hg o r
 refine wp_region_any hm ?_;have e:(q++tail).toArray.size=q.length+tail.length:=by simp
 rw[e];refine z7 tail q hb ?_;have H:=qcZ (P:=P) (ops:=q) (a0:=a0) (Q:=Qa P q tail Q) (R:=fun W=>Below B w0 W) (Good:=QQ gs) aa I (fun i o hi x W D U K hK=>by
   have r:=G o (List.mem_of_getElem? hi);simp only[Bool.and_eq_true,Option.isNone_iff_eq_none]at r;have O:B<=W.heap.size:=Nat.le_trans Z D.size;rw[if_pos (by simp[Region.wanted,r.1])];exact YO J i o hi _ x W (J9 (fun d X=>of_decide_eq_true (List.all_eq_true.1 af d X))) D O U K (fun v W' S ad=>hK v W' (D.trans (S.mono O)) (fun j u _ hj=>qcl ab hj S) ad))
  (fun i o v W hi X=>by
   have r:=G o (List.mem_of_getElem? hi);rw[X]at r;simp at r)
  (fun x W D hG=>Y x W D (Nat.le_trans Z D.size) (by
   have: ∀(l:List Oper) (n:Nat),(∀i o,l[i]? =some o->QQ gs (n+i) (qM x o) W)->yG (fun i o=>QQ gs i (qM x o) W) n l:=by
    intro l;induction l with
    | nil=>intro n _;trivial
    | cons o l ih=>
     intro n h;refine⟨by simpa using h 0 o (by simp),ih (n+1) (fun i o' hi=>?_)⟩;have:=h (i+1) o' (by simpa using hi)
     rw[show n+1+i=n+(i+1) by omega];exact this
   exact this q 0 (fun i o hi=>by rw[Nat.zero_add];exact hG i o hi)))
  q.length (Array.replicate q.length false) (fun d=>a0.tmps.getD d undef) w.drew (by simp) (by
   simp only[Array.toList_replicate,jm,List.countP_replicate];simp) hw (fun i o hi V=>by
   have ae:i<q.length:=(List.getElem?_eq_some_iff.1 hi).1;simp[Lh,ae]at V)
 rw[Ja]at H;exact H
def StepR (P:Program)(init:List Oper)(ds:List Tmp)(a0:Act)(R:World->Prop)(gs:List (Value->World->Prop))(Q:Exit->Act->World->Prop)(i:Nat)(o:Oper):Prop:=
 ∀(A:Act) (x:Tmp->Value) (W:World),ZR a0 x ds A->R W->(∀e∈o.after,Region.binds .any e=true-> ∀oe,init[e.on]? =some oe->QQ gs e.on (qM x oe) W)->
  ∀K:Act->World->Prop,(∀v W',R W'->(∀j u,j≠i->QQ gs j u W->QQ gs j u W')->QQ gs i v W'->K (A.put o.dst v) W')->Oper.wp P o A W K Q
theorem qcD {w:World}(R:World->Prop)(ds:List Tmp)(gs:List (Value->World->Prop))(hi:l.take n=q)(ht:l.drop n=tail)(Y:q.filterMap (·.dst)=ds)(ab:(ds.all fun d=>decide (d<a0.tmps.size))=true)(X:ds.Nodup)(D:YP q=true)
  (hg:(q.all fun o=>o.guard.isNone)=true) (hb:jn .any q tail=true) (hm:P.follows .mixedOrders=true) (hw:R w.drew)
  (ac:yG (fun i o=>o.dst=none-> ∀v W,QQ gs i v W->QQ gs i undef W) 0 q)
  (G:yG (StepR P q ds a0 R gs (Qa P q tail Q)) 0 q)
  (S: ∀(x:Tmp->Value) (W:World),R W->yG (fun i o=>QQ gs i (qM x o) W) 0 q->Qa P q tail Q .normal (lay a0 x ds) W):
  (Code.region id l.toArray true).wp P Q a0 w:=by
 have J:l=q++tail:=by rw[<-hi,<-ht];exact(List.take_append_drop _ _).symm
 clear hi ht;subst J;subst Y;have V:=fun o r=>List.all_eq_true.1 hg o r
 refine wp_region_any hm ?_;have e:(q++tail).toArray.size=q.length+tail.length:=by simp
 rw[e];refine z7 tail q hb ?_;have H:=qcZ (P:=P) (ops:=q) (a0:=a0) (Q:=Qa P q tail Q) (R:=R) (Good:=QQ gs) X D (fun i o hi x W U I K hK=>by
   have r:=V o (List.mem_of_getElem? hi);simp only[Option.isNone_iff_eq_none]at r;rw[if_pos (by simp[Region.wanted,r])];exact YO G i o hi _ x W (J9 (fun d O=>of_decide_eq_true (List.all_eq_true.1 ab d O))) U I K hK)
  (fun i o v W hi O Z=>YO ac i o hi O v W Z)
  (fun x W U hG=>S x W U (by
   have: ∀(l:List Oper) (n:Nat),(∀i o,l[i]? =some o->QQ gs (n+i) (qM x o) W)->yG (fun i o=>QQ gs i (qM x o) W) n l:=by
    intro l;induction l with
    | nil=>intro n _;trivial
    | cons o l ih=>
     intro n h;refine⟨by simpa using h 0 o (by simp),ih (n+1) (fun i o' hi=>?_)⟩;have:=h (i+1) o' (by simpa using hi)
     rw[show n+1+i=n+(i+1) by omega];exact this
   exact this q 0 (fun i o hi=>by rw[Nat.zero_add];exact hG i o hi)))
  q.length (Array.replicate q.length false) (fun d=>a0.tmps.getD d undef) w.drew (by simp) (by
   simp only[Array.toList_replicate,jm,List.countP_replicate];simp) hw (fun i o hi J=>by
   have aa:i<q.length:=(List.getElem?_eq_some_iff.1 hi).1;simp[Lh,aa]at J)
 rw[Ja]at H;exact H
theorem BR {w:World}:Below B w w:=Below.refl _ _
theorem kW {g:Value->Prop}: ∀(W W':World),Below W.heap.size W W'-> ∀v,g v->g v:=fun _ _ _ _ h=>h
theorem gv {gs:List (Value->World->Prop)}{o:Array Edge}{q:Oper}(S:ZR a0 x ds A)
    (D: ∀e∈o,Region.binds .any e=true-> ∀q,r[e.on]? =some q->QQ gs e.on (qM x q) W) (i s:Nat)
    (U:s∈ds:=by decide) (J:(⟨i,.data⟩:Edge)∈o:=by simp) (G:r[i]? =some q:=by rfl) (I:qM x q=x s:=by rfl) (O:QQ gs i=(fun u _=>u=v):=by rfl):A.tmps.getD s undef=v:=by
  have:=D _ J rfl q G
  rw[O,I]at this;exact(S.1 s U).trans this
def setD (D:Nat->Bool)(i:Nat):Nat->Bool:=fun j=>D j||j==i
def Yg (x:Tmp->Value)(d:Option Tmp)(v:Value):Tmp->Value:=match d with|some d=>upd x d v|none=>x
def qbD (ops:List Oper)(D:Nat->Bool):Prop:= ∀j oj,ops[j]? =some oj->D j=true-> ∀e∈oj.after,Region.binds .any e=true->D e.on=true
theorem qi1 (a0:Act)(x:Tmp->Value){ops:List Oper}(q:(ops.filterMap (·.dst)).Nodup)(hi:ops[i]? =some o)(v:Value):
  (lay a0 x (ops.filterMap (·.dst))).put o.dst v=lay a0 (Yg x o.dst v) (ops.filterMap (·.dst)):=by
 cases hd:o.dst with
 | none=>rfl
 | some d=>exact qbB a0 x d v _ q (List.mem_filterMap.2 ⟨o,List.mem_of_getElem? hi,hd⟩)
section
variable {P:Program} {ops:List Oper} {a0:Act} {Q:Exit->Act->World->Prop} {R:(Nat->Bool)->(Tmp->Value)->World->Prop}
theorem qc0 (ai:(ops.filterMap (·.dst)).Nodup)(ab:YP ops=true)
  (ac: ∀(i:Nat) (o:Oper),ops[i]? =some o-> ∀(D:Nat->Bool) (x:Tmp->Value) (W:World),R D x W->D i=false->(∀e∈o.after,Region.binds .any e=true->D e.on=true)->qbD ops D->
   ∀K:Act->World->Prop,(∀v W',R (setD D i) (Yg x o.dst v) W'->K ((lay a0 x (ops.filterMap (·.dst))).put o.dst v) W')->
   if Region.wanted o (yielded ops.toArray (lay a0 x (ops.filterMap (·.dst))).tmps)=true then Oper.wp P o (lay a0 x (ops.filterMap (·.dst))) W K Q else K ((lay a0 x (ops.filterMap (·.dst))).put o.dst undef) W)
  (X: ∀(D:Nat->Bool) (x:Tmp->Value) (W:World),R D x W->(∀i,D i=true)->Q .normal (lay a0 x (ops.filterMap (·.dst))) W):
  ∀(fuel:Nat) (q:Array Bool) (x:Tmp->Value) (W:World),q.size=ops.length->jm q.toList<=fuel->R (fun j=>q.getD j true) x W->qbD ops (fun j=>q.getD j true)->
   wpAny P .any ops.toArray Q fuel q (lay a0 x (ops.filterMap (·.dst))) W:=by
 intro fuel;induction fuel with
 | zero=>
  intro q x W hs ht hR hC;have Z: ∀i,q.getD i true=true:=fun i=>by
   have:=qar (l:=q.toList) (by omega) i
   simpa [Lh,Lg] using this
  refine⟨?_,X _ x W hR Z⟩;rw[List.eq_nil_iff_forall_not_mem];intro j hj;have:=(mem_ready.1 hj).1
  rw[Z j]at this
  cases this
 | succ fuel ih=>
  intro q x W hs ht hR hC;refine⟨fun hr=>X _ x W hR ?_,fun i hi=>?_⟩
  ·intro j;show q.getD j true=true
   induction j using Nat.strongRecOn with
   | _ j ihj=>
    cases hl:q.getD j true with
    | true=>rfl
    | false=>
     have hj:j<q.size:=by
      rw[Lh]at hl
      cases e:q[j]? with
      | none=>rw[e]at hl;cases hl
      | some b=>exact(Ai e).1
     obtain⟨J,U⟩: ∃J,ops[j]? =some J:=⟨ops[j]'(by omega),by simp[show j<ops.length by omega]⟩;have hm:j∈Region.ready .any ops.toArray q:=mem_ready.2 ⟨hl,J,by simpa using U,fun e O S=>by
      have aj:=(QF ab U).1 e O S;have h2:=ihj e.on aj;have af:e.on<q.size:=by omega
      simp only[Lh,Array.getElem?_eq_getElem af,Option.getD_some]at h2⊢;exact h2⟩
     rw[hr]at hm;cases hm
  ·obtain⟨aa,o,U,ah⟩:=mem_ready.1 hi;have I:ops[i]? =some o:=by simpa using U
   have V:i<q.size:=by
    have:=(List.getElem?_eq_some_iff.1 I).1
    omega
   have ag:q.toList[i]? =some false:=by
    rw[Lh,Array.getElem?_eq_getElem V,Option.getD_some]at aa;rw[Array.getElem?_toList,Array.getElem?_eq_getElem V,aa]
   have ad:jm (q.setIfInBounds i true).toList<=fuel:=by
    have:=JU q.toList i ag
    rw[Array.toList_setIfInBounds];omega
   have G: ∀e∈o.after,Region.binds .any e=true->q.getD e.on true=true:=fun e O S=>by
    have h6:=ah e O S;rw[Lh]at h6⊢
    cases e':q[e.on]? with
    | none=>rfl
    | some b=>rw[e']at h6;exact h6
   have Y:(fun j=>(q.setIfInBounds i true).getD j true)=setD (fun j=>q.getD j true) i:=by
    funext j
    simp only[setD,Lh,Array.getElem?_setIfInBounds];by_cases e:i=j
    ·subst e;simp[V]
    ·simp[e,Ne.symm e]
   refine wpOp_step U fun K hK=>ac i o I _ x W hR aa G hC K fun v W' ak=>?_
   rw[qi1 a0 x ai I v];refine hK _ _ ?_;refine ih _ (Yg x o.dst v) W' (by simpa using hs) ad (by rw[Y];exact ak) ?_;intro j J ae r e O S;rw[Y]at r⊢;simp only[setD,Bool.or_eq_true,beq_iff_eq]at r⊢;rcases r with r|rfl
   ·exact .inl (hC j J ae r e O S)
   ·obtain rfl:o=J:=Option.some.inj (I.symm.trans ae);exact .inl (G e O S)
end
inductive GS where
 | own (q:Value->World->Prop)
 | far (ds:List Tmp) (q:List Value->World->Prop)
def yl (l:List Oper)(gs:List GS)(x:Tmp->Value)(W:World)(j:Nat):Prop:=match gs[j]?,l[j]? with
 | some (.own q),some o=>q (qM x o) W
 | some (.far ds q),some _=>q (ds.map x) W
 | _,_=>True
def GS.stay:GS->World->World->Prop
 | .own q,W,W'=> ∀v,q v W->q v W'
 | .far _ q,W,W'=> ∀v,q v W->q v W'
def qfK:List GS->Prop
 | []=>True
 | g::gs=>(∀W W',Below W.heap.size W W'->g.stay W W')/\qfK gs
theorem qbN: ∀{gs:List GS},qfK gs-> ∀{j:Nat} {g:GS},gs[j]? =some g-> ∀W W',Below W.heap.size W W'->g.stay W W'
 | [],_,j,g,h,_,_,_=>by simp at h
 | _::_,hs,0,g,h,W,W',hb=>by simp at h;subst h;exact hs.1 W W' hb
 | _::gs,hs,j+1,g,h,W,W',hb=>qbN (gs:=gs) hs.2 (by simpa using h) W W' hb
def qeo (W W':World)(s:Nat):Nat->List GS->Prop
 | _,[]=>True
 | n,g::gs=>(n=s\/g.stay W W')/\qeo W W' s (n+1) gs
theorem qbO {W W':World}{s:Nat}: ∀{gs:List GS} {n:Nat},qeo W W' s n gs-> ∀{j:Nat} {g:GS},gs[j]? =some g->n+j≠s->g.stay W W'
 | [],_,_,j,g,h,_=>by simp at h
 | _::_,n,hs,0,g,h,hne=>by
  simp at h;subst h
  rcases hs.1 with o|o
  ·exact absurd o (by simpa using hne)
  ·exact o
 | _::gs,n,hs,j+1,g,h,hne=>qbO (gs:=gs) hs.2 (by simpa using h) (by omega)
def qat (l:List Oper)(gs:List GS):Bool:=(List.range l.length).all fun j=>match l[j]?,gs[j]? with
 | some oj,some (.far ds _)=>ds.all fun d=>oj.after.any fun e=>Region.binds .any e&&(match l[e.on]? with|some oe=>oe.dst==some d|none=>false)
 | _,_=>true
theorem Zn {gs:List GS}(h:qat l gs=true){I:Oper}{q:List Value->World->Prop}(J:l[j]? =some I)(U:gs[j]? =some (.far ds q))(O:d∈ds):
  ∃e∈I.after,Region.binds .any e=true/\ ∃r,l[e.on]? =some r/\r.dst=some d:=by
 have D:j<l.length:=(List.getElem?_eq_some_iff.1 J).1;have G:=List.all_eq_true.1 h j (List.mem_range.2 D);rw[J,U]at G;obtain⟨e,S,o⟩:=Array.any_eq_true'.1 (List.all_eq_true.1 G d O);rw[Bool.and_eq_true]at o;refine⟨e,S,o.1,?_⟩
 cases ho:l[e.on]? with
 | none=>rw[ho]at o;simp at o
 | some r=>rw[ho]at o;exact⟨r,rfl,by simpa using o.2⟩
def qcU (gs:List GS)(s i:Nat)(o:Oper):Bool:=(match gs[i]? with|some (.far _ _)=>false|_=>true)&&i != s&&o.dst.isSome
def qcT (gs:List GS)(i:Nat)(v:Value)(W:World):Prop:=match gs[i]? with|some (.own q)=>q v W|_=>True
def atG (gs:List GS)(i:Nat)(x:Tmp->Value)(v:Value)(W:World):Prop:=match gs[i]? with|some (.far ds q)=>q (ds.map x) W|some (.own q)=>q v W|none=>True
def StepG (P:Program)(l:List Oper)(ds:List Tmp)(a0:Act)(Rb:Bool->World->Prop)(s:Nat)(gs:List GS)(Q:Exit->Act->World->Prop)(i:Nat)(o:Oper):Prop:=
 ∀(A:Act) (x:Tmp->Value) (W:World) (f:Bool),ZR a0 x ds A->Rb f W->(ZT l s i=true->f=false)->(∀e∈o.after,Region.binds .any e=true->yl l gs x W e.on)->
  ∀K:Act->World->Prop,(∀v W',Below W.heap.size W W'->qcT gs i v W'->K (A.put o.dst v) W')->Oper.wp P o A W K Q
def qjr (P:Program)(l:List Oper)(ds:List Tmp)(a0:Act)(Rb:Bool->World->Prop)(s:Nat)(gs:List GS)(Q:Exit->Act->World->Prop)(o:Oper):Prop:=
 ∀(A:Act) (x:Tmp->Value) (W:World),ZR a0 x ds A->Rb false W->(∀e∈o.after,Region.binds .any e=true->yl l gs x W e.on)->
  ∀K:Act->World->Prop,(∀v W',(o.dst=none->v=undef)->Rb true W'->qeo W W' s 0 gs->atG gs s x v W'->K (A.put o.dst v) W')->Oper.wp P o A W K Q
theorem qbR (r:YP l=true){q:Oper}(hi:l[i]? =some o)(G:l[j]? =some q)(D:j≠i)(x:Tmp->Value)(v:Value):qM (Yg x o.dst v) q=qM x q:=by
 unfold qM Yg
 cases hd:o.dst with
 | none=>rfl
 | some d=>
  cases hd':q.dst with
  | none=>rfl
  | some d'=>
   have:d'≠d:=fun e=>D ((QF r hi).2 j q d G hd (by rw[hd',e]))
   simp[upd,this]
theorem qbF {w:World}(hi:L.take n=l)(ht:L.drop n=tail)(aq:jn .any l tail=true)(Rb:Bool->World->Prop)(s:Nat)(ds:List Tmp)(gs:List GS)(ay:l.filterMap (·.dst)=ds)(an:(ds.all fun d=>decide (d<a0.tmps.size))=true)(ar:ds.Nodup)(G:YP l=true)
  (hg:(l.all fun o=>o.guard.isNone)=true) (ai:qat l gs=true) (hs:s<l.length) (hm:P.follows .mixedOrders=true) (hw:Rb false w.drew) (ap: ∀f W W',Rb f W->Below W.heap.size W W'->Rb f W') (aw:qfK gs)
  (ag:yG (fun i o=>(qcU gs s i o=true/\StepG P l ds a0 Rb s gs (Qa P l tail Q) i o)\/(i=s/\qjr P l ds a0 Rb s gs (Qa P l tail Q) o)) 0 l)
  (aj: ∀(x:Tmp->Value) (W:World),Rb true W->yG (fun i _=>yl l gs x W i) 0 l->Qa P l tail Q .normal (lay a0 x ds) W):
  (Code.region id L.toArray true).wp P Q a0 w:=by
 have hL:L=l++tail:=by rw[<-hi,<-ht];exact(List.take_append_drop _ _).symm
 clear hi ht;subst hL;subst ay;have ak:=fun o ho=>List.all_eq_true.1 hg o ho
 have al:=hs;refine wp_region_any hm ?_;have eL:(l++tail).toArray.size=l.length+tail.length:=by simp
 rw[eL];refine z7 tail l aq ?_;have H:=qc0 (P:=P) (ops:=l) (a0:=a0) (Q:=Qa P l tail Q) (R:=fun D x W=>Rb (D s) W/\ ∀i,D i=true->yl l gs x W i) ar G (fun i o hi D x W Z ab ae hC K hK=>by
   have ho:=ak o (List.mem_of_getElem? hi);rw[Option.isNone_iff_eq_none]at ho;rw[if_pos (by simp[Region.wanted,ho])];have hL:ZR a0 x (l.filterMap (·.dst)) (lay a0 x (l.filterMap (·.dst))):=J9 (fun d hd=>of_decide_eq_true (List.all_eq_true.1 an d hd));have X: ∀(j:Nat) (v:Value) (W':World),j≠i->D j=true->(∀g,gs[j]? =some g->g.stay W W')->yl l gs (Yg x o.dst v) W' j:=fun j v W' r V U=>by
    have S:=Z.2 j V;unfold yl at S⊢
    cases hgj:gs[j]? with
    | none=>trivial
    | some g=>
     cases Y:l[j]? with
     | none=>cases g<;>trivial
     | some oj=>
      rw[hgj,Y]at S
      cases g with
      | own q=>
       show q (qM (Yg x o.dst v) oj) W'
       rw[qbR G hi Y r];exact U _ hgj _ S
      | far dl q=>
       show q (dl.map (Yg x o.dst v)) W'
       have e:dl.map (Yg x o.dst v)=dl.map x:=by
        refine List.map_congr_left fun d hd=>?_
        unfold Yg
        cases hdo:o.dst with
        | none=>rfl
        | some d'=>
         have:d≠d':=by
          rintro rfl
          obtain⟨e,he,I,oe,aa,ad⟩:=Zn ai Y hgj hd;have h1:=(QF G hi).2 e.on oe d aa hdo ad;have h2:=hC j oj Y V e he I;rw[h1,ab]at h2
          cases h2
         simp[upd,this]
       rw[e];exact U _ hgj _ S
   rcases YO ag i o hi with⟨J,hG⟩|⟨rfl,hS⟩
   ·unfold qcU at J;simp only[Bool.and_eq_true,bne_iff_ne]at J;refine hG _ x W (D s) hL Z.1 (fun au=>?_) (fun e he I=>Z.2 _ (ae e he I)) K (fun v W' ah O=>hK v W' ⟨?_,fun j hj=>?_⟩)
    ·obtain⟨o',ao,e,he,I,ax⟩:=ji au
     cases hDs:D s with
     | false=>rfl
     | true=>
      have:=hC s o' ao hDs e he I
      rw[ax,ab]at this;cases this
    ·have e:setD D i s=D s:=by
      have:(s==i)=false:=by rw[beq_eq_false_iff_ne];exact Ne.symm J.1.2
      simp[setD,this]
     rw[e];exact ap _ _ _ Z.1 ah
    ·by_cases r:j=i
     ·subst r;unfold yl;unfold qcT at O
      cases hgj:gs[j]? with
      | none=>trivial
      | some g=>
       rw[hgj]at O J;rw[hi]
       cases g with
       | own q=>
        obtain⟨d,hd⟩:=Option.isSome_iff_exists.1 J.2;have:qM (Yg x o.dst v) o=v:=by unfold qM Yg;rw[hd];simp[upd]
        show q (qM (Yg x o.dst v) o) W'
        rw[this];exact O
       | far dl q=>simp at J
     ·have V:D j=true:=by
       have I:(j==i)=false:=by rw[beq_eq_false_iff_ne];exact r
       simpa [setD,I] using hj
      exact X j v W' r V fun g ac=>qbN aw ac W W' ah
   ·refine hS _ x W hL (ab▸Z.1) (fun e he I=>Z.2 _ (ae e he I)) K (fun v W' hv am U O=>?_);refine hK v W' ⟨?_,fun j hj=>?_⟩
    ·have:setD D i i=true:=by simp[setD]
     rw[this];exact am
    ·by_cases r:j=i
     ·subst r;unfold yl;unfold atG at O
      cases hgj:gs[j]? with
      | none=>trivial
      | some g=>
       rw[hgj]at O;rw[hi]
       cases g with
       | own q=>
        show q (qM (Yg x o.dst v) o) W'
        have:qM (Yg x o.dst v) o=v:=by
         unfold qM Yg
         cases hd:o.dst with
         | none=>exact(hv hd).symm
         | some d=>simp[upd]
        rw[this];exact O
       | far dl q=>
        show q (dl.map (Yg x o.dst v)) W'
        have e:dl.map (Yg x o.dst v)=dl.map x:=by
         refine List.map_congr_left fun d hd=>?_
         unfold Yg
         cases hdo:o.dst with
         | none=>rfl
         | some d'=>
          have:d≠d':=by
           rintro rfl
           obtain⟨e,he,I,oe,aa,ad⟩:=Zn ai hi hgj hd;have h1:=(QF G hi).2 e.on oe d aa hdo ad;have h2:=(QF G hi).1 e he I;omega
          simp[upd,this]
        rw[e];exact O
     ·have V:D j=true:=by
       have I:(j==i)=false:=by rw[beq_eq_false_iff_ne];exact r
       simpa [setD,I] using hj
      exact X j v W' r V fun g ac=>qbO U ac (by simpa using r))
  (fun D x W Z hD=>aj x W (hD s▸Z.1) (by
   have: ∀(m:List Oper) (n:Nat),yG (fun i _=>yl l gs x W i) n m:=by
    intro m;induction m with
    | nil=>intro n;trivial
    | cons o m ih=>intro n;exact⟨Z.2 n (hD n),ih (n+1)⟩
   exact this l 0))
  l.length (Array.replicate l.length false) (fun d=>a0.tmps.getD d undef) w.drew (by simp) (by
   simp only[Array.toList_replicate,jm,List.countP_replicate];simp) ⟨by
    have:(Array.replicate l.length false).getD s true=false:=by simp[Lh,al]
    show Rb ((Array.replicate l.length false).getD s true) w.drew
    rw[this];exact hw,fun i hi=>by
    have az: ¬i<l.length:=fun af=>by simp[Lh,af]at hi
    unfold yl;rw[List.getElem?_eq_none (l:=l) (by omega)]
    cases gs[i]? with
    | none=>trivial
    | some g=>cases g<;>trivial⟩ (fun j oj av Y=>by
    have af:j<l.length:=(List.getElem?_eq_some_iff.1 av).1;simp[Lh,af]at Y)
 rw[Ja]at H;exact H
theorem gw {gs:List GS}{o:Array Edge}(G:ZR a0 x ds A)
    (q: ∀e∈o,Region.binds .any e=true->yl l gs x W e.on) (i s:Nat)
    (D:s∈ds:=by decide) (I:(⟨i,.data⟩:Edge)∈o:=by simp) (r:yl l gs x W i=(x s=v):=by rfl):A.tmps.getD s undef=v:=by
  have:=q _ I rfl
  rw[r]at this;exact(G.1 s D).trans this
inductive Sp where
 | v (d:Tmp) (u:Value)
 | p (d:Tmp) (q:Value->World->Prop)
 | s (q:World->Prop)
 | f (d:Option Tmp) (ds:List Tmp) (q:List Value->World->Prop)
abbrev Sp.z(d b i:Nat):Sp:=.v d (.pointer (some ⟨b,i,none⟩))
def Sp.dst:Sp->Option Tmp
 | .v d _=>some d
 | .p d _=>some d
 | .s _=>none
 | .f d _ _=>d
def Sp.says:Sp->Value->World->Prop
 | .v _ u=>fun y _=>y=u
 | .p _ q=>q
 | .s q=>fun _ W=>q W
 | .f _ _ _=>fun _ _=>True
def Sp.gs:Sp->GS
 | .v _ u=> .own fun y _=>y=u
 | .p _ q=> .own q
 | .s q=> .far [] fun _ W=>q W
 | .f _ ds q=> .far ds q
def yc:List Sp->Act->World->Nat->Prop
 | .v d u::_,A,_,0=>A.tmps.getD d undef=u
 | .p d q::_,A,W,0=>q (A.tmps.getD d undef) W
 | _::l,A,W,n+1=>yc l A W n
 | _,_,_,_=>True
def QS (sp:List Sp)(A:Act)(W:World):List Edge->Prop
 | []=>True
 | ⟨i,.data⟩::l=>yc sp A W i/\QS sp A W l
 | _::l=>QS sp A W l
def QG (a0:Act)(x:Tmp->Value):List Sp->Act
 | []=>a0
 | .v d u::l=>(QG a0 x l).put (some d) u
 | .p d _::l=>(QG a0 x l).put (some d) (x d)
 | .s _::l=>QG a0 x l
 | .f (some d) _ _::l=>(QG a0 x l).put (some d) (x d)
 | .f none _ _::l=>QG a0 x l
def qby (x:Tmp->Value)(W:World):List Sp->Prop
 | []=>True
 | .v _ _::l=>qby x W l
 | .p d q::l=>q (x d) W/\qby x W l
 | .s q::l=>q W/\qby x W l
 | .f _ ds q::l=>q (ds.map x) W/\qby x W l
def qfJ:List Sp->Prop
 | []=>True
 | .p _ q::l=>(∀v W W',q v W->Below W.heap.size W W'->q v W')/\qfJ l
 | .s q::l=>(∀W W',q W->Below W.heap.size W W'->q W')/\qfJ l
 | _::l=>qfJ l
def qbl:List Sp->Prop
 | []=>True
 | .p _ q::l=>(∀W W',Below W.heap.size W W'-> ∀v,q v W->q v W')/\qbl l
 | .s q::l=>(∀W W',Below W.heap.size W W'->q W->q W')/\qbl l
 | .f _ _ q::l=>(∀W W',Below W.heap.size W W'-> ∀v,q v W->q v W')/\qbl l
 | _::l=>qbl l
theorem jo: ∀{sp:List Sp},qfJ sp->qhm (sp.map Sp.says)
 | [],_=>trivial
 | .v _ _::_,h=>⟨fun _ _ _ h _=>h,jo h⟩
 | .p _ _::_,h=>⟨h.1,jo h.2⟩
 | .s _::_,h=>⟨fun _ W W'=>h.1 W W',jo h.2⟩
 | .f _ _ _::_,h=>⟨fun _ _ _ h _=>h,jo h⟩
theorem ZH: ∀{sp:List Sp},qbl sp->qfK (sp.map Sp.gs)
 | [],_=>trivial
 | .v _ _::_,h=>⟨fun _ _ _ _ h=>h,ZH h⟩
 | .p _ _::_,h=>⟨h.1,ZH h.2⟩
 | .s _::_,h=>⟨fun W W' o _=>h.1 W W' o,ZH h.2⟩
 | .f _ _ _::_,h=>⟨h.1,ZH h.2⟩
theorem qaM {sp:List Sp}{s:Sp}(h:sp[i]? =some s)(v:Value)(W:World):QQ (sp.map Sp.says) i v W=s.says v W:=by
 unfold QQ;rw[List.getElem?_map,h];rfl
theorem qaL {sp:List Sp}{s:Sp}(h:sp[i]? =some s)(D:r[i]? =some o)(W:World):
  yl r (sp.map Sp.gs) x W i=match s.gs with| .own q=>q (qM x o) W| .far ds q=>q (ds.map x) W:=by
 unfold yl;rw[List.getElem?_map,h,D]
 cases s<;>rfl
theorem qaN {sp:List Sp}(r:q.map (·.dst)=sp.map Sp.dst)(D:q[i]? =some o): ∃s,sp[i]? =some s/\s.dst=o.dst:=by
 have h:=congrArg (fun l:List (Option Tmp)=>l[i]?) r;simp only[List.getElem?_map,D,Option.map_some]at h
 cases hs:sp[i]? with
 | none=>rw[hs]at h;cases h
 | some s=>rw[hs]at h;exact⟨s,rfl,by simpa using h.symm⟩
theorem j8: ∀{sp:List Sp} {A:Act} {W:World} {i:Nat},(∀d u,sp[i]? =some (.v d u)->A.tmps.getD d undef=u)->(∀d q,sp[i]? =some (.p d q)->q (A.tmps.getD d undef) W)->yc sp A W i
 | [],_,_,0,_,_=>trivial
 | [],_,_,_+1,_,_=>trivial
 | .v _ _::_,_,_,0,h,_=>h _ _ rfl
 | .p _ _::_,_,_,0,_,h=>h _ _ rfl
 | .s _::_,_,_,0,_,_=>trivial
 | .f _ _ _::_,_,_,0,_,_=>trivial
 | .v _ _::l,A,W,i+1,h,k=>j8 (sp:=l) (A:=A) (W:=W) (i:=i) (fun d u e=>h d u (by simpa using e)) (fun d q e=>k d q (by simpa using e))
 | .p _ _::l,A,W,i+1,h,k=>j8 (sp:=l) (A:=A) (W:=W) (i:=i) (fun d u e=>h d u (by simpa using e)) (fun d q e=>k d q (by simpa using e))
 | .s _::l,A,W,i+1,h,k=>j8 (sp:=l) (A:=A) (W:=W) (i:=i) (fun d u e=>h d u (by simpa using e)) (fun d q e=>k d q (by simpa using e))
 | .f _ _ _::l,A,W,i+1,h,k=>j8 (sp:=l) (A:=A) (W:=W) (i:=i) (fun d u e=>h d u (by simpa using e)) (fun d q e=>k d q (by simpa using e))
theorem Zx {sp:List Sp}{A:Act}{W:World}: ∀(l:List Edge),(∀e∈l,Region.binds .any e=true->yc sp A W e.on)->QS sp A W l
 | [],_=>trivial
 | ⟨_,.data⟩::l,h=>⟨h _ (List.mem_cons_self ..) rfl,Zx l (fun e o=>h e (List.mem_cons_of_mem _ o))⟩
 | ⟨_,.chain⟩::l,h=>Zx l (fun e o=>h e (List.mem_cons_of_mem _ o))
 | ⟨_,.guard⟩::l,h=>Zx l (fun e o=>h e (List.mem_cons_of_mem _ o))
 | ⟨_,.phase⟩::l,h=>Zx l (fun e o=>h e (List.mem_cons_of_mem _ o))
 | ⟨_,.textOnly _⟩::l,h=>Zx l (fun e o=>h e (List.mem_cons_of_mem _ o))
 | ⟨_,.gcOnly _⟩::l,h=>Zx l (fun e o=>h e (List.mem_cons_of_mem _ o))
theorem J6 (h:q[i]? =some o)(r:o.dst=some d):d∈q.filterMap (·.dst):=List.mem_filterMap.2 ⟨o,List.mem_of_getElem? h,r⟩
theorem qgv (a0:Act){x:Tmp->Value}: ∀{sp:List Sp} {r:List Oper},r.map (·.dst)=sp.map Sp.dst->(∀(i:Nat) (d:Tmp) (u:Value),sp[i]? =some (.v d u)->x d=u)->lay a0 x (r.filterMap (·.dst))=QG a0 x sp
 | [],[],_,_=>rfl
 | [],_::_,h,_=>by simp at h
 | _::_,[],h,_=>by simp at h
 | s::sp,o::r,h,hv=>by
  simp only[List.map_cons,List.cons.injEq]at h;have G:=qgv a0 (x:=x) h.2 (fun i d u e=>hv (i+1) d u (by simpa using e))
  cases s with
  | v d u=>
   have D:o.dst=some d:=h.1;rw[List.filterMap_cons,D];show(lay a0 x (r.filterMap _)).put (some d) (x d)=(QG a0 x sp).put (some d) u
   rw[G,hv 0 d u rfl]
  | p d q=>
   have D:o.dst=some d:=h.1;rw[List.filterMap_cons,D];show(lay a0 x (r.filterMap _)).put (some d) (x d)=(QG a0 x sp).put (some d) (x d)
   rw[G]
  | s q=>
   have D:o.dst=none:=h.1;rw[List.filterMap_cons,D];exact G
  | f d ds q=>
   cases d with
   | none=>
    have D:o.dst=none:=h.1;rw[List.filterMap_cons,D];exact G
   | some d=>
    have D:o.dst=some d:=h.1;rw[List.filterMap_cons,D];show(lay a0 x (r.filterMap _)).put (some d) (x d)=(QG a0 x sp).put (some d) (x d)
    rw[G]
theorem Jg {x:Tmp->Value}{W:World}: ∀{sp:List Sp},(∀(i:Nat) (s:Sp),sp[i]? =some s->match s with| .v _ _=>True| .p d q=>q (x d) W| .s q=>q W| .f _ ds q=>q (ds.map x) W)->qby x W sp
 | [],_=>trivial
 | .v _ _::l,h=>Jg (sp:=l) (fun i s e=>h (i+1) s (by simpa using e))
 | .p _ _::l,h=>⟨h 0 _ rfl,Jg (sp:=l) (fun i s e=>h (i+1) s (by simpa using e))⟩
 | .s _::l,h=>⟨h 0 _ rfl,Jg (sp:=l) (fun i s e=>h (i+1) s (by simpa using e))⟩
 | .f _ _ _::l,h=>⟨h 0 _ rfl,Jg (sp:=l) (fun i s e=>h (i+1) s (by simpa using e))⟩
theorem YG: ∀{q:List Oper} {sp:List Sp},q.map (·.dst)=sp.map Sp.dst->q.filterMap (·.dst)=sp.filterMap Sp.dst
 | [],[],_=>rfl
 | [],_::_,h=>by simp at h
 | _::_,[],h=>by simp at h
 | o::q,s::sp,h=>by
  simp only[List.map_cons,List.cons.injEq]at h;have r:=YG h.2;rw[List.filterMap_cons,List.filterMap_cons,h.1,r]
theorem depL {sp:List Sp}{o:Array Edge}(Z:r.filterMap (·.dst)=ds)(hl:r.map (·.dst)=sp.map Sp.dst)(Y: ∀e∈o,e.on<r.length)(hA:ZR a0 x ds A)
  (U: ∀e∈o,Region.binds .any e=true-> ∀D,r[e.on]? =some D->QQ (sp.map Sp.says) e.on (qM x D) W):QS sp A W o.toList:=by
 subst Z;refine Zx _ fun e O hb=>?_
 have O:e∈o:=Array.mem_toList_iff.1 O;obtain⟨D,G⟩: ∃D,r[e.on]? =some D:=⟨_,List.getElem?_eq_getElem (Y e O)⟩;obtain⟨s,X,S⟩:=qaN hl G;have V:=U e O hb D G;rw[qaM X]at V;refine j8 (fun d u J=>?_) (fun d q J=>?_)
 ·rw[X]at J;obtain rfl:=Option.some.inj J;have I:D.dst=some d:=S.symm;rw[hA.1 d (J6 G I)];have:qM x D=x d:=by unfold qM;rw[I]
  rw[<-this];exact V
 ·rw[X]at J;obtain rfl:=Option.some.inj J;have I:D.dst=some d:=S.symm;rw[hA.1 d (J6 G I)];have:qM x D=x d:=by unfold qM;rw[I]
  rw[<-this];exact V
theorem endL {sp:List Sp}(O:r.map (·.dst)=sp.map Sp.dst)(J:(sp.all fun s=>match s with| .f _ _ _=>false|_=>true)=true)
  (h:yG (fun i o=>QQ (sp.map Sp.says) i (qM x o) W) 0 r):qby x W sp/\lay a0 x (r.filterMap (·.dst))=QG a0 x sp:=by
 have S: ∀(i:Nat) (s:Sp),sp[i]? =some s-> ∃o,r[i]? =some o/\o.dst=s.dst/\s.says (qM x o) W:=fun i s hi=>by
  have G:=congrArg (fun l:List (Option Tmp)=>l[i]?) O;simp only[List.getElem?_map,hi,Option.map_some]at G
  cases ho:r[i]? with
  | none=>rw[ho]at G;cases G
  | some o=>
   rw[ho]at G;have D:=YO h i o ho;rw[qaM hi]at D;exact⟨o,rfl,by simpa using G,D⟩
 refine⟨Jg fun i s hi=>?_,qgv a0 O fun i d u hi=>?_⟩
 ·obtain⟨o, -,I,D⟩:=S i s hi
  cases s with
  | v d u=>trivial
  | p d q=>
   have:qM x o=x d:=by unfold qM;rw[I];rfl
   show q (x d) W
   rw[<-this];exact D
  | s q=>exact D
  | f d ds q=>exact absurd (List.all_eq_true.1 J _ (List.mem_of_getElem? hi)) (by simp)
 ·obtain⟨o, -,I,D⟩:=S i _ hi;have:qM x o=x d:=by unfold qM;rw[I];rfl
  rw[<-this];exact D
def qaS (l:List Oper):Bool:=l.all fun o=>o.after.all fun e=>decide (e.on<l.length)
theorem zI (h:qaS l=true)(hi:l[i]? =some o): ∀e∈o.after,e.on<l.length:=fun e q=>
 of_decide_eq_true (Array.all_eq_true'.1 (List.all_eq_true.1 h o (List.mem_of_getElem? hi)) e q)
def StepC (P:Program)(init:List Oper)(ds:List Tmp)(a0:Act)(B:Nat)(w0:World)(sp:List Sp)(Q:Exit->Act->World->Prop)(i:Nat)(o:Oper):Prop:=
 ∀(A:Act) (x:Tmp->Value) (W:World),ZR a0 x ds A->Below B w0 W->B<=W.heap.size->(∀e∈o.after,Region.binds .any e=true-> ∀oe,init[e.on]? =some oe->QQ (sp.map Sp.says) e.on (qM x oe) W)->QS sp A W o.after.toList->
  ∀K:Act->World->Prop,(∀v W',Below W.heap.size W W'->QQ (sp.map Sp.says) i v W'->K (A.put o.dst v) W')->Oper.wp P o A W K Q
theorem ZP {p q:Nat->Oper->Prop}(l:List Oper): ∀(n:Nat) (m:List Oper),(∀i o,m[i]? =some o->p (n+i) o->q (n+i) o)->yG p n m->yG q n m
 | _,[],_,_=>trivial
 | n,o::m,h,k=>⟨h 0 o rfl k.1,ZP l (n+1) m (fun i D hi r=>by
   rw[show n+1+i=n+(i+1) by omega]at r⊢;exact h (i+1) D (by simpa using hi) r) k.2⟩
theorem qE {w:World}(sp:List Sp)(aa:qfJ sp)(hw:Below B w0 w.drew)(hB:B<=w0.heap.size)
  (J:yG (StepC P q ds a0 B w0 sp (Qa P q tail Q)) 0 q)
  (S: ∀(x:Tmp->Value) (W:World),Below B w0 W->B<=W.heap.size->qby x W sp->Qa P q tail Q .normal (QG a0 x sp) W)
  (hi:l.take n=q:=by dsimp only[List.take]) (ht:l.drop n=tail:=by dsimp only[List.drop]) (ab:sp.filterMap Sp.dst=ds:=by dsimp only[List.filterMap,Sp.dst]) (O:q.map (·.dst)=sp.map Sp.dst:=by rfl)
  (ac:(ds.all fun d=>decide (d<a0.tmps.size))=true:=by rfl) (Y:ds.Nodup:=by decide) (I:YP q=true:=by kernel_rfl)
  (hg:(q.all fun o=>o.guard.isNone&&o.dst.isSome)=true:=by rfl) (hb:jn .any q tail=true:=by kernel_rfl) (Z:qaS q=true:=by kernel_rfl) (hm:P.follows .mixedOrders=true:=by kernel_rfl)
  (X:(sp.all fun s=>match s with| .f _ _ _=>false|_=>true)=true:=by rfl):
  (Code.region id l.toArray true).wp P Q a0 w:=by
 have r:q.filterMap (·.dst)=ds:=(YG O).trans ab;refine qbm (n:=n) (w0:=w0) (B:=B) ds (sp.map Sp.says) hi ht r ac Y I hg hb hm hw hB (jo aa) ?_ ?_
 ·refine ZP q 0 q (fun i o ho h=>?_) J;rw[Nat.zero_add]at h⊢;exact fun A x W hA V D G K hK=>h A x W hA V D G (depL r O (zI Z ho) hA G) K hK
 ·intro x W V D U;obtain⟨h1,h2⟩:=endL (a0:=a0) O X U;rw[r]at h2;rw[h2];exact S x W V D h1
def qkw (P:Program)(init:List Oper)(ds:List Tmp)(a0:Act)(R:World->Prop)(sp:List Sp)(Q:Exit->Act->World->Prop)(i:Nat)(o:Oper):Prop:=
 ∀(A:Act) (x:Tmp->Value) (W:World),ZR a0 x ds A->R W->(∀e∈o.after,Region.binds .any e=true-> ∀oe,init[e.on]? =some oe->QQ (sp.map Sp.says) e.on (qM x oe) W)->QS sp A W o.after.toList->
  ∀K:Act->World->Prop,(∀v W',R W'->(∀j u,j≠i->QQ (sp.map Sp.says) j u W->QQ (sp.map Sp.says) j u W')->QQ (sp.map Sp.says) i v W'->K (A.put o.dst v) W')->Oper.wp P o A W K Q
theorem JR {w:World}(R:World->Prop)(sp:List Sp)(hw:R w.drew)
  (U:yG (qkw P r ds a0 R sp (Qa P r tail Q)) 0 r)
  (V: ∀(x:Tmp->Value) (W:World),R W->qby x W sp->Qa P r tail Q .normal (QG a0 x sp) W)
  (hi:l.take n=r:=by dsimp only[List.take]) (ht:l.drop n=tail:=by dsimp only[List.drop]) (ac:sp.filterMap Sp.dst=ds:=by dsimp only[List.filterMap,Sp.dst]) (J:r.map (·.dst)=sp.map Sp.dst:=by rfl)
  (ad:(ds.all fun d=>decide (d<a0.tmps.size))=true:=by rfl) (aa:ds.Nodup:=by decide) (S:YP r=true:=by kernel_rfl)
  (O:(r.all fun o=>o.guard.isNone)=true:=by rfl) (hb:jn .any r tail=true:=by kernel_rfl) (ab:qaS r=true:=by kernel_rfl) (hm:P.follows .mixedOrders=true:=by kernel_rfl)
  (Z:(sp.all fun s=>match s with| .f _ _ _=>false|_=>true)=true:=by rfl):
  (Code.region id l.toArray true).wp P Q a0 w:=by
 have D:r.filterMap (·.dst)=ds:=(YG J).trans ac;refine qcD (n:=n) R ds (sp.map Sp.says) hi ht D ad aa S O hb hm hw ?_ ?_ ?_
 ·have: ∀(m:List Oper) (n:Nat),(∀i o,m[i]? =some o->r[n+i]? =some o)->yG (fun i o=>o.dst=none-> ∀v W,QQ (sp.map Sp.says) i v W->QQ (sp.map Sp.says) i undef W) n m:=by
   intro m;induction m with
   | nil=>intro n _;trivial
   | cons o m ih=>
    intro n h;refine⟨fun hd v W O=>?_,ih (n+1) (fun i o' hi=>by rw[show n+1+i=n+(i+1) by omega];exact h (i+1) o' (by simpa using hi))⟩;have h0:r[n]? =some o:=h 0 o rfl;obtain⟨s,hs,G⟩:=qaN J h0;rw[qaM hs]at O⊢
    cases s with
    | v d u=>rw[hd]at G;cases G
    | p d q=>rw[hd]at G;cases G
    | s q=>exact O
    | f d ds q=>trivial
  exact this r 0 (fun i o hi=>by rw[Nat.zero_add];exact hi)
 ·refine ZP r 0 r (fun i o ho h=>?_) U;rw[Nat.zero_add]at h⊢;exact fun A x W hA X I K hK=>h A x W hA X I (depL D J (zI ab ho) hA I) K hK
 ·intro x W X Y;obtain⟨h1,h2⟩:=endL (a0:=a0) J Z Y;rw[D]at h2;rw[h2];exact V x W X h1
theorem depG {sp:List Sp}{o:Array Edge}(Z:r.filterMap (·.dst)=ds)(hl:r.map (·.dst)=sp.map Sp.dst)(Y: ∀e∈o,e.on<r.length)(hA:ZR a0 x ds A)
  (U: ∀e∈o,Region.binds .any e=true->yl r (sp.map Sp.gs) x W e.on):QS sp A W o.toList:=by
 subst Z;refine Zx _ fun e O hb=>?_
 have O:e∈o:=Array.mem_toList_iff.1 O;obtain⟨G,D⟩: ∃G,r[e.on]? =some G:=⟨_,List.getElem?_eq_getElem (Y e O)⟩;obtain⟨s,X,S⟩:=qaN hl D;have V:=U e O hb;rw[qaL X D]at V;refine j8 (fun d u J=>?_) (fun d q J=>?_)
 ·rw[X]at J;obtain rfl:=Option.some.inj J;have I:G.dst=some d:=S.symm;rw[hA.1 d (J6 D I)];have:qM x G=x d:=by unfold qM;rw[I]
  rw[<-this];exact V
 ·rw[X]at J;obtain rfl:=Option.some.inj J;have I:G.dst=some d:=S.symm;rw[hA.1 d (J6 D I)];have:qM x G=x d:=by unfold qM;rw[I]
  rw[<-this];exact V
theorem endG {sp:List Sp}(J:r.map (·.dst)=sp.map Sp.dst)
  (h:yG (fun i _=>yl r (sp.map Sp.gs) x W i) 0 r):qby x W sp/\lay a0 x (r.filterMap (·.dst))=QG a0 x sp:=by
 have O: ∀(i:Nat) (s:Sp),sp[i]? =some s-> ∃o,o.dst=s.dst/\(match s.gs with| .own q=>q (qM x o) W| .far ds q=>q (ds.map x) W):=fun i s hi=>by
  have G:=congrArg (fun l:List (Option Tmp)=>l[i]?) J;simp only[List.getElem?_map,hi,Option.map_some]at G
  cases ho:r[i]? with
  | none=>rw[ho]at G;cases G
  | some o=>
   rw[ho]at G;have D:=YO h i o ho;rw[qaL hi ho]at D;exact⟨o,by simpa using G,D⟩
 refine⟨Jg fun i s hi=>?_,qgv a0 J fun i d u hi=>?_⟩
 ·obtain⟨o,I,D⟩:=O i s hi
  cases s with
  | v d u=>trivial
  | p d q=>
   have:qM x o=x d:=by unfold qM;rw[I];rfl
   show q (x d) W
   rw[<-this];exact D
  | s q=>exact D
  | f d ds q=>exact D
 ·obtain⟨o,I,D⟩:=O i _ hi;have:qM x o=x d:=by unfold qM;rw[I];rfl
  rw[<-this];exact D
def Sp.isOwn:Sp->Bool
 | .v _ _=>true
 | .p _ _=>true
 | _=>false
def qgo:List Sp->Nat->Nat->Bool
 | [],_,_=>true
 | x::l,n,s=>(n==s||x.isOwn)&&qgo l (n+1) s
theorem qd4: ∀{sp:List Sp} {n s:Nat},qgo sp n s=true-> ∀{j:Nat} {x:Sp},sp[j]? =some x->n+j≠s->x.isOwn=true
 | [],_,_,_,j,x,h,_=>by simp at h
 | y::_,n,s,h,0,x,hx,hne=>by
  simp only[qgo,Bool.and_eq_true,Bool.or_eq_true,beq_iff_eq]at h;simp at hx;subst hx
  exact h.1.resolve_left (by simpa using hne)
 | y::l,n,s,h,j+1,x,hx,hne=>by
  simp only[qgo,Bool.and_eq_true]at h;exact qd4 (sp:=l) h.2 (by simpa using hx) (by omega)
def qjs (P:Program)(l:List Oper)(ds:List Tmp)(a0:Act)(Rb:Bool->World->Prop)(s:Nat)(sp:List Sp)(i:Nat)(Q:Exit->Act->World->Prop)(o:Oper):Prop:=
 ∀(A:Act) (x:Tmp->Value) (W:World) (f:Bool),ZR a0 x ds A->Rb f W->(ZT l s i=true->f=false)->(∀e∈o.after,Region.binds .any e=true->yl l (sp.map Sp.gs) x W e.on)->QS sp A W o.after.toList->
  ∀K:Act->World->Prop,(∀v W',Below W.heap.size W W'->qcT (sp.map Sp.gs) i v W'->K (A.put o.dst v) W')->Oper.wp P o A W K Q
theorem YA {w:World}(G:Bool->World->Prop)(s:Nat)(sp:List Sp)(ag:qbl sp)(hw:G false w.drew)(ac: ∀f W W',G f W->Below W.heap.size W W'->G f W')
  (V:yG (fun i o=>i=s\/qjs P l ds a0 G s sp i (Qa P l tail Q) o) 0 l)
  (O:qjr P l ds a0 G s (sp.map Sp.gs) (Qa P l tail Q) o)
  (aa: ∀(x:Tmp->Value) (W:World),G true W->qby x W sp->Qa P l tail Q .normal (QG a0 x sp) W)
  (hi:L.take n=l:=by dsimp only[List.take]) (ht:L.drop n=tail:=by dsimp only[List.drop]) (ae:jn .any l tail=true:=by kernel_rfl) (ai:sp.filterMap Sp.dst=ds:=by dsimp only[List.filterMap,Sp.dst]) (S:l.map (·.dst)=sp.map Sp.dst:=by rfl)
  (aj:(ds.all fun d=>decide (d<a0.tmps.size))=true:=by rfl) (ad:ds.Nodup:=by decide) (U:YP l=true:=by kernel_rfl) (hg:(l.all fun o=>o.guard.isNone)=true:=by rfl) (ah:qat l (sp.map Sp.gs)=true:=by kernel_rfl)
  (ho:l[s]? =some o:=by rfl) (Z:qgo sp 0 s=true:=by rfl) (af:qaS l=true:=by kernel_rfl) (hm:P.follows .mixedOrders=true:=by kernel_rfl):
  (Code.region id L.toArray true).wp P Q a0 w:=by
 have D:l.filterMap (·.dst)=ds:=(YG S).trans ai;have hs:s<l.length:=(List.getElem?_eq_some_iff.1 ho).1;refine qbF hi ht ae G s ds (sp.map Sp.gs) D aj ad U hg ah hs hm hw ac (ZH ag) ?_ ?_
 ·refine ZP l 0 l (fun i o' I h=>?_) V;rw[Nat.zero_add]at h⊢;by_cases r:i=s
  ·subst r;rw[ho]at I;obtain rfl:=Option.some.inj I;exact .inr ⟨rfl,O⟩
  ·refine .inl ⟨?_,fun A x W f hA hR hf J K hK=>h.resolve_left r A x W f hA hR hf J (depG D S (zI af I) hA J) K hK⟩;obtain⟨x,hx,Y⟩:=qaN S I;have X:=qd4 Z hx (by rw[Nat.zero_add];exact r);unfold qcU;rw[List.getElem?_map,hx]
   cases x with
   | v d u=>simp[Sp.gs,r,<-Y,Sp.dst]
   | p d q=>simp[Sp.gs,r,<-Y,Sp.dst]
   | s q=>cases X
   | f d ds q=>cases X
 ·intro x W hR ab;obtain⟨h1,h2⟩:=endG (a0:=a0) S ab;rw[D]at h2;rw[h2];exact aa x W hR h1
theorem yt {w:World}(q:Bool->World->Prop)(s:Nat)(sp:List Sp)(V:qbl sp)(hw:q false w.drew)(O: ∀f W W',q f W->Below W.heap.size W W'->q f W')
  (G:yG (fun i o=>i=s\/qjs P l ds a0 q s sp i Q o) 0 l)
  (r:qjr P l ds a0 q s (sp.map Sp.gs) Q o)
  (J: ∀(x:Tmp->Value) (W:World),q true W->qby x W sp->Q .normal (QG a0 x sp) W)
  (Y:sp.filterMap Sp.dst=ds:=by dsimp only[List.filterMap,Sp.dst]) (hl:l.map (·.dst)=sp.map Sp.dst:=by rfl)
  (Z:(ds.all fun d=>decide (d<a0.tmps.size))=true:=by rfl) (S:ds.Nodup:=by decide) (D:YP l=true:=by kernel_rfl) (hg:(l.all fun o=>o.guard.isNone)=true:=by rfl) (X:qat l (sp.map Sp.gs)=true:=by kernel_rfl)
  (ho:l[s]? =some o:=by rfl) (I:qgo sp 0 s=true:=by rfl) (U:qaS l=true:=by kernel_rfl) (hm:P.follows .mixedOrders=true:=by kernel_rfl):
  (Code.region id l.toArray true).wp P Q a0 w:=
 YA (n:=l.length) (l:=l) (tail:=[]) q s sp V hw O G r J (by simp) (by simp) rfl Y hl Z S D hg X ho I U hm
