/- A region that draws its order, in a world that grows only: each operation's slot says what it must, in whatever order; then a tail of operations of which each waits for all before it. No condition. -/
import Derived.Test.YthjoojnlnlmljaaGreatF13
import Derived.Test.YthjoojnlnlmljaaGreatF06
import Derived.Test.YthjoojnlnlmljaaGreatF02
import Derived.Below
import Derived.Laws.Tables
set_option linter.all false
set_option maxRecDepth 100000
set_option maxHeartbeats 8000000
namespace Go.Proofs.YthjoojnlnlmljaaGreat
open Go Go.RowKit
theorem Y8 {P:Program}{o:Oper}{a:Act}{w:World}{K:Act→World→Prop}{Q:Exit→Act→World→Prop}(t:TypeId)(q:Array (Nat×Operand))(I:o.op= .build t q)(D:Array Value)
  (G:P.built t (q.map fun(i,x)=>(i,a.eval x)).toList=some D) (h:K (a.put o.dst (.agg D)) w):o.wp P a w K Q:=
 wp_build t q I (by rw[G];rfl) (by rw[G];exact h)
def ye (p:Nat→Oper→Prop):Nat→List Oper→Prop
 | _,[]=>True
 | n,o::l=>p n o∧ye p (n+1) l
theorem qt {p:Nat→Oper→Prop}{n:Nat}{o:Oper}{l:List Oper}(h:p n o)(q:ye p (n+1) l):ye p n (o::l):=⟨h,q⟩
theorem qx {p:Nat→Oper→Prop}{n:Nat}:ye p n []:=trivial
theorem qdM {p:Nat→Oper→Prop}: ∀(l:List Oper) (n:Nat),ye p n l→ ∀i o,l[i]? =some o→p (n+i) o
 | [],_,_,i,o,hi=>by simp at hi
 | _::_,n,h,0,o,hi=>by simp at hi;subst hi;exact h.1
 | _::l,n,h,i+1,o,hi=>by
  have:=qdM l (n+1) h.2 i o (by simpa using hi)
  rw[show n+(i+1)=n+1+i by omega];exact this
theorem yY {p:Nat→Oper→Prop}{l:List Oper}(h:ye p 0 l): ∀i o,l[i]? =some o→p i o:=fun i o q=>by
 have:=qdM l 0 h i o q
 rwa[Nat.zero_add]at this
def QD (gs:List (Value→World→Prop))(i:Nat)(v:Value)(W:World):Prop:=match gs[i]? with
 | some g=>g v W
 | none=>True
def qfx:List (Value→World→Prop)→Prop
 | []=>True
 | g::gs=>(∀v W W',g v W→Below W.heap.size W W'→g v W')∧qfx gs
theorem qa2: ∀{gs:List (Value→World→Prop)},qfx gs→ ∀{i:Nat} {v:Value} {W W':World},QD gs i v W→Below W.heap.size W W'→QD gs i v W'
 | [],_,i,v,W,W',_,_=>by unfold QD;simp
 | g::gs,h,0,v,W,W',hg,hb=>h.1 v W W' hg hb
 | g::gs,h,i+1,v,W,W',hg,hb=>by
  have:=qa2 (gs:=gs) h.2 (i:=i) (v:=v) (W:=W) (W':=W') (by unfold QD at hg⊢;simpa using hg) hb
  unfold QD at this⊢;simpa using this
def Zp (md:Region.Mode):List Oper→List Oper→Bool
 | _,[]=>true
 | init,o::t=>JF md init o init.length&&qb9 md init&&Zp md (init++[o]) t
def qR (P:Program):List Oper→List Oper→(Exit→Act→World→Prop)→Exit→Act→World→Prop
 | _,[],Q=>Q
 | init,o::t,Q=>Jn P (init++[o]).toArray o (qR P (init++[o]) t Q)
theorem qo {P:Program}{q t:List Oper}{o:Oper}{Q:Exit→Act→World→Prop}{a:Act}{w:World}(h:wpList P (q++[o]).toArray (qR P (q++[o]) t Q) [o] a w):qR P q (o::t) Q .normal a w:=h
theorem qs {P:Program}{o:List Oper}{Q:Exit→Act→World→Prop}{a:Act}{w:World}(h:Q .normal a w):qR P o [] Q .normal a w:=h
theorem YY {P:Program}{md:Region.Mode}{Q:Exit→Act→World→Prop}{a:Act}{w:World}: ∀(tail q:List Oper),Zp md q tail=true→
  wpAny P md q.toArray (qR P q tail Q) q.length (Array.replicate q.length false) a w→wpAny P md (q++tail).toArray Q (q.length+tail.length) (Array.replicate (q.length+tail.length) false) a w
 | [],q,_,h=>by simpa [qR] using h
 | o::t,q,hb,h=>by
  simp only[Zp,Bool.and_eq_true]at hb;have S:=YY (P:=P) (Q:=Q) (a:=a) (w:=w) t (q++[o]) hb.2 (by
   have D:(q++[o]).toArray=q.toArray.push o:=by simp
   have J:(q++[o]).length=q.length+1:=by simp
   have U:Array.replicate (q.length+1) false=(Array.replicate q.length false).push false:=by
    rw[Array.replicate_succ]
   rw[J,U,D];refine jB (by simpa using hb.1.1) (by simpa using hb.1.2) _ _ _ _ (by simp) ?_ (by rw[←D];exact h);intro j V O G;exfalso
   have I:=(Ai O).1;simp only[List.size_toArray]at I;rw[Lh,Array.getElem?_replicate,if_pos I]at G
   cases G)
  have D:q++[o]++t=q++o::t:=by simp
  have J:(q++[o]).length+t.length=q.length+(o::t).length:=by simp;omega
  rw[D,J]at S;exact S
theorem qdC (a0:Act)(x:Tmp→Value): ∀ds,(lay a0 x ds).tmps.size=a0.tmps.size
 | []=>rfl
 | d::ds=>by
  show((lay a0 x ds).put (some d) (x d)).tmps.size=_
  simp[Act.put,qdC a0 x ds]
theorem qfp (a0:Act)(x:Tmp→Value){d:Tmp}: ∀ds,d∉ds→(lay a0 x ds).tmps.getD d undef=a0.tmps.getD d undef
 | [],_=>rfl
 | e::ds,h=>by
  show((lay a0 x ds).put (some e) (x e)).tmps.getD d undef=_
  have q:e≠d:=fun o=>h (by simp[o])
  rw[←qfp a0 x ds (fun o=>h (by simp[o]))];simp[Act.put,Lh,Array.getElem?_setIfInBounds,q]
theorem qg5 (a0:Act)(x:Tmp→Value){d:Tmp}(D:d<a0.tmps.size): ∀ds,d∈ds→(lay a0 x ds).tmps.getD d undef=x d
 | e::ds,h=>by
  show((lay a0 x ds).put (some e) (x e)).tmps.getD d undef=_
  by_cases q:e=d
  ·subst q;have G:e<(lay a0 x ds).tmps.size:=by rw[qdC];exact D
   simp[Act.put,Lh,Array.getElem?_setIfInBounds,G]
  ·have o:d∈ds:=by
    rcases List.mem_cons.1 h with o|o
    ·exact absurd o.symm q
    ·exact o
   rw[←qg5 a0 x D ds o];simp[Act.put,Lh,Array.getElem?_setIfInBounds,q]
def zP (a0:Act)(x:Tmp→Value)(ds:List Tmp)(A:Act):Prop:=(∀d,d∈ds→A.tmps.getD d undef=x d)∧ ∀d,d∉ds→A.tmps.getD d undef=a0.tmps.getD d undef
theorem Ja {a0:Act}{x:Tmp→Value}{ds:List Tmp}(h: ∀d∈ds,d<a0.tmps.size):zP a0 x ds (lay a0 x ds):=⟨fun d o=>qg5 a0 x (h d o) ds o,fun d o=>qfp a0 x ds o⟩
def StepO (P:Program)(init:List Oper)(ds:List Tmp)(a0:Act)(B:Nat)(w0:World)(gs:List (Value→World→Prop))(Q:Exit→Act→World→Prop)(i:Nat)(o:Oper):Prop:=
 ∀(A:Act) (x:Tmp→Value) (W:World),zP a0 x ds A→Below B w0 W→B≤W.heap.size→(∀e∈o.after,Region.binds .any e=true→ ∀oe,init[e.on]? =some oe→QD gs e.on (qF x oe) W)→
  ∀K:Act→World→Prop,(∀v W',Below W.heap.size W W'→QD gs i v W'→K (A.put o.dst v) W')→Oper.wp P o A W K Q
theorem qag {P:Program}{id:Nat}{w w0:World}{Q:Exit→Act→World→Prop}{a0:Act}{B:Nat}{l q tail:List Oper}{n:Nat}(ds:List Tmp)(gs:List (Value→World→Prop))(D:l.take n=q)(ht:l.drop n=tail)(af:q.filterMap (·.dst)=ds)(ac:(ds.all fun d=>decide (d<a0.tmps.size))=true)(ad:ds.Nodup)(S:yM q=true)
  (hg:(q.all fun o=>o.guard.isNone&&o.dst.isSome)=true) (hb:Zp .any q tail=true) (hm:P.follows .mixedOrders=true) (hw:Below B w0 w.drew) (hB:B≤w0.heap.size) (ae:qfx gs)
  (O:ye (StepO P q ds a0 B w0 gs (qR P q tail Q)) 0 q)
  (Y: ∀(x:Tmp→Value) (W:World),Below B w0 W→B≤W.heap.size→ye (fun i o=>QD gs i (qF x o) W) 0 q→qR P q tail Q .normal (lay a0 x ds) W):
  (Code.region id l.toArray true).wp P Q a0 w:=by
 have Z:l=q++tail:=by rw[←D,←ht];exact(List.take_append_drop _ _).symm
 clear D ht;subst Z;subst af;have J:=fun o G=>List.all_eq_true.1 hg o G
 refine wp_region_any hm ?_;have e:(q++tail).toArray.size=q.length+tail.length:=by simp
 rw[e];refine YY tail q hb ?_;have H:=Jq (P:=P) (ops:=q) (a0:=a0) (Q:=qR P q tail Q) (R:=fun W=>Below B w0 W) (Good:=QD gs) ad S (fun i o D x W I X K hK=>by
   have G:=J o (List.mem_of_getElem? D);simp only[Bool.and_eq_true,Option.isNone_iff_eq_none]at G;have U:B≤W.heap.size:=Nat.le_trans hB I.size;rw[if_pos (by simp[Region.wanted,G.1])];exact yY O i o D _ x W (Ja (fun d hd=>of_decide_eq_true (List.all_eq_true.1 ac d hd))) I U X K (fun v W' V aa=>hK v W' (I.trans (V.mono U)) (fun j u _ hj=>qa2 ae hj V) aa))
  (fun i o v W D hd=>by
   have G:=J o (List.mem_of_getElem? D);rw[hd]at G;simp at G)
  (fun x W I hG=>Y x W I (Nat.le_trans hB I.size) (by
   have: ∀(l:List Oper) (n:Nat),(∀i o,l[i]? =some o→QD gs (n+i) (qF x o) W)→ye (fun i o=>QD gs i (qF x o) W) n l:=by
    intro l;induction l with
    | nil=>intro n _;trivial
    | cons o l ih=>
     intro n h;refine⟨by simpa using h 0 o (by simp),ih (n+1) (fun i o' D=>?_)⟩;have:=h (i+1) o' (by simpa using D)
     rw[show n+1+i=n+(i+1) by omega];exact this
   exact this q 0 (fun i o D=>by rw[Nat.zero_add];exact hG i o D)))
  q.length (Array.replicate q.length false) (fun d=>a0.tmps.getD d undef) w.drew (by simp) (by
   simp only[Array.toList_replicate,Zl,List.countP_replicate];simp) hw (fun i o D Z=>by
   have ab:i<q.length:=(List.getElem?_eq_some_iff.1 D).1;simp[Lh,ab]at Z)
 rw[z9]at H;exact H
def StepR (P:Program)(init:List Oper)(ds:List Tmp)(a0:Act)(R:World→Prop)(gs:List (Value→World→Prop))(Q:Exit→Act→World→Prop)(i:Nat)(o:Oper):Prop:=
 ∀(A:Act) (x:Tmp→Value) (W:World),zP a0 x ds A→R W→(∀e∈o.after,Region.binds .any e=true→ ∀oe,init[e.on]? =some oe→QD gs e.on (qF x oe) W)→
  ∀K:Act→World→Prop,(∀v W',R W'→(∀j u,j≠i→QD gs j u W→QD gs j u W')→QD gs i v W'→K (A.put o.dst v) W')→Oper.wp P o A W K Q
theorem qbk {P:Program}{id:Nat}{w:World}{Q:Exit→Act→World→Prop}{a0:Act}{l q tail:List Oper}{n:Nat}(R:World→Prop)(ds:List Tmp)(gs:List (Value→World→Prop))(D:l.take n=q)(ht:l.drop n=tail)(ad:q.filterMap (·.dst)=ds)(ab:(ds.all fun d=>decide (d<a0.tmps.size))=true)(ac:ds.Nodup)(I:yM q=true)
  (hg:(q.all fun o=>o.guard.isNone)=true) (hb:Zp .any q tail=true) (hm:P.follows .mixedOrders=true) (hw:R w.drew)
  (ae:ye (fun i o=>o.dst=none→ ∀v W,QD gs i v W→QD gs i undef W) 0 q)
  (G:ye (StepR P q ds a0 R gs (qR P q tail Q)) 0 q)
  (U: ∀(x:Tmp→Value) (W:World),R W→ye (fun i o=>QD gs i (qF x o) W) 0 q→qR P q tail Q .normal (lay a0 x ds) W):
  (Code.region id l.toArray true).wp P Q a0 w:=by
 have V:l=q++tail:=by rw[←D,←ht];exact(List.take_append_drop _ _).symm
 clear D ht;subst V;subst ad;have X:=fun o J=>List.all_eq_true.1 hg o J
 refine wp_region_any hm ?_;have e:(q++tail).toArray.size=q.length+tail.length:=by simp
 rw[e];refine YY tail q hb ?_;have H:=Jq (P:=P) (ops:=q) (a0:=a0) (Q:=qR P q tail Q) (R:=R) (Good:=QD gs) ac I (fun i o D x W O S K hK=>by
   have J:=X o (List.mem_of_getElem? D);simp only[Option.isNone_iff_eq_none]at J;rw[if_pos (by simp[Region.wanted,J])];exact yY G i o D _ x W (Ja (fun d Y=>of_decide_eq_true (List.all_eq_true.1 ab d Y))) O S K hK)
  (fun i o v W D Y Z=>yY ae i o D Y v W Z)
  (fun x W O hG=>U x W O (by
   have: ∀(l:List Oper) (n:Nat),(∀i o,l[i]? =some o→QD gs (n+i) (qF x o) W)→ye (fun i o=>QD gs i (qF x o) W) n l:=by
    intro l;induction l with
    | nil=>intro n _;trivial
    | cons o l ih=>
     intro n h;refine⟨by simpa using h 0 o (by simp),ih (n+1) (fun i o' D=>?_)⟩;have:=h (i+1) o' (by simpa using D)
     rw[show n+1+i=n+(i+1) by omega];exact this
   exact this q 0 (fun i o D=>by rw[Nat.zero_add];exact hG i o D)))
  q.length (Array.replicate q.length false) (fun d=>a0.tmps.getD d undef) w.drew (by simp) (by
   simp only[Array.toList_replicate,Zl,List.countP_replicate];simp) hw (fun i o D V=>by
   have aa:i<q.length:=(List.getElem?_eq_some_iff.1 D).1;simp[Lh,aa]at V)
 rw[z9]at H;exact H
theorem BR {B:Nat}{w:World}:Below B w w:=Below.refl _ _
theorem kW {g:Value→Prop}: ∀(W W':World),Below W.heap.size W W'→ ∀v,g v→g v:=fun _ _ _ _ h=>h
theorem gv {a0 A:Act}{x:Tmp→Value}{ds:List Tmp}{gs:List (Value→World→Prop)}{D:List Oper}{W:World}{o:Array Edge}{v:Value}{q:Oper}(V:zP a0 x ds A)
    (G: ∀e∈o,Region.binds .any e=true→ ∀q,D[e.on]? =some q→QD gs e.on (qF x q) W) (i s:Nat)
    (J:s∈ds:=by decide) (I:(⟨i,.data⟩:Edge)∈o:=by simp) (O:D[i]? =some q:=by rfl) (U:qF x q=x s:=by rfl) (S:QD gs i=(fun u _=>u=v):=by rfl):A.tmps.getD s undef=v:=by
  have:=G _ I rfl q O
  rw[S,U]at this;exact(V.1 s J).trans this
def setD (D:Nat→Bool)(i:Nat):Nat→Bool:=fun j=>D j||j==i
def yz (x:Tmp→Value)(d:Option Tmp)(v:Value):Tmp→Value:=match d with|some d=>upd x d v|none=>x
def qav (ops:List Oper)(D:Nat→Bool):Prop:= ∀j oj,ops[j]? =some oj→D j=true→ ∀e∈oj.after,Region.binds .any e=true→D e.on=true
theorem qg4 (a0:Act)(x:Tmp→Value){ops:List Oper}(q:(ops.filterMap (·.dst)).Nodup){i:Nat}{o:Oper}(D:ops[i]? =some o)(v:Value):
  (lay a0 x (ops.filterMap (·.dst))).put o.dst v=lay a0 (yz x o.dst v) (ops.filterMap (·.dst)):=by
 cases hd:o.dst with
 | none=>rfl
 | some d=>exact qat a0 x d v _ q (List.mem_filterMap.2 ⟨o,List.mem_of_getElem? D,hd⟩)
section
variable {P:Program} {ops:List Oper} {a0:Act} {Q:Exit→Act→World→Prop} {R:(Nat→Bool)→(Tmp→Value)→World→Prop}
theorem qbH (ak:(ops.filterMap (·.dst)).Nodup)(ad:yM ops=true)
  (ac: ∀(i:Nat) (o:Oper),ops[i]? =some o→ ∀(D:Nat→Bool) (x:Tmp→Value) (W:World),R D x W→D i=false→(∀e∈o.after,Region.binds .any e=true→D e.on=true)→qav ops D→
   ∀K:Act→World→Prop,(∀v W',R (setD D i) (yz x o.dst v) W'→K ((lay a0 x (ops.filterMap (·.dst))).put o.dst v) W')→
   if Region.wanted o (yielded ops.toArray (lay a0 x (ops.filterMap (·.dst))).tmps)=true then Oper.wp P o (lay a0 x (ops.filterMap (·.dst))) W K Q else K ((lay a0 x (ops.filterMap (·.dst))).put o.dst undef) W)
  (Y: ∀(D:Nat→Bool) (x:Tmp→Value) (W:World),R D x W→(∀i,D i=true)→Q .normal (lay a0 x (ops.filterMap (·.dst))) W):
  ∀(fuel:Nat) (q:Array Bool) (x:Tmp→Value) (W:World),q.size=ops.length→Zl q.toList≤fuel→R (fun j=>q.getD j true) x W→qav ops (fun j=>q.getD j true)→
   wpAny P .any ops.toArray Q fuel q (lay a0 x (ops.filterMap (·.dst))) W:=by
 intro fuel;induction fuel with
 | zero=>
  intro q x W hs ht hR hC;have ab: ∀i,q.getD i true=true:=fun i=>by
   have:=Js (l:=q.toList) (by omega) i
   simpa [Lh,Lg] using this
  refine⟨?_,Y _ x W hR ab⟩;rw[List.eq_nil_iff_forall_not_mem];intro j hj;have:=(mem_ready.1 hj).1
  rw[ab j]at this
  cases this
 | succ fuel ih=>
  intro q x W hs ht hR hC;refine⟨fun hr=>Y _ x W hR ?_,fun i hi=>?_⟩
  ·intro j;show q.getD j true=true
   induction j using Nat.strongRecOn with
   | _ j ihj=>
    cases hl:q.getD j true with
    | true=>rfl
    | false=>
     have hj:j<q.size:=by
      rw[Lh]at hl
      cases e:q[j]? with
      | none=>rw[e]at hl;cases hl
      | some b=>exact(Ai e).1
     obtain⟨U,X⟩: ∃U,ops[j]? =some U:=⟨ops[j]'(by omega),by simp[show j<ops.length by omega]⟩;have hm:j∈Region.ready .any ops.toArray q:=mem_ready.2 ⟨hl,U,by simpa using X,fun e O S=>by
      have aj:=(Qu ad X).1 e O S;have h2:=ihj e.on aj;have ag:e.on<q.size:=by omega
      simp only[Lh,Array.getElem?_eq_getElem ag,Option.getD_some]at h2⊢;exact h2⟩
     rw[hr]at hm;cases hm
  ·obtain⟨aa,o,X,ah⟩:=mem_ready.1 hi;have J:ops[i]? =some o:=by simpa using X
   have V:i<q.size:=by
    have:=(List.getElem?_eq_some_iff.1 J).1
    omega
   have ai:q.toList[i]? =some false:=by
    rw[Lh,Array.getElem?_eq_getElem V,Option.getD_some]at aa;rw[Array.getElem?_toList,Array.getElem?_eq_getElem V,aa]
   have ae:Zl (q.setIfInBounds i true).toList≤fuel:=by
    have:=jQ q.toList i ai
    rw[Array.toList_setIfInBounds];omega
   have I: ∀e∈o.after,Region.binds .any e=true→q.getD e.on true=true:=fun e O S=>by
    have h6:=ah e O S;rw[Lh]at h6⊢
    cases e':q[e.on]? with
    | none=>rfl
    | some b=>rw[e']at h6;exact h6
   have Z:(fun j=>(q.setIfInBounds i true).getD j true)=setD (fun j=>q.getD j true) i:=by
    funext j
    simp only[setD,Lh,Array.getElem?_setIfInBounds];by_cases e:i=j
    ·subst e;simp[V]
    ·simp[e,Ne.symm e]
   refine wpOp_step X fun K hK=>ac i o J _ x W hR aa I hC K fun v W' al=>?_
   rw[qg4 a0 x ak J v];refine hK _ _ ?_;refine ih _ (yz x o.dst v) W' (by simpa using hs) ae (by rw[Z];exact al) ?_;intro j U af G e O S;rw[Z]at G⊢;simp only[setD,Bool.or_eq_true,beq_iff_eq]at G⊢;rcases G with G|rfl
   ·exact .inl (hC j U af G e O S)
   ·obtain rfl:o=U:=Option.some.inj (J.symm.trans af);exact .inl (I e O S)
end
inductive GS where
 | own (q:Value→World→Prop)
 | far (ds:List Tmp) (q:List Value→World→Prop)
def QT (l:List Oper)(gs:List GS)(x:Tmp→Value)(W:World)(j:Nat):Prop:=match gs[j]?,l[j]? with
 | some (.own q),some o=>q (qF x o) W
 | some (.far ds q),some _=>q (ds.map x) W
 | _,_=>True
def GS.stay:GS→World→World→Prop
 | .own q,W,W'=> ∀v,q v W→q v W'
 | .far _ q,W,W'=> ∀v,q v W→q v W'
def qdY:List GS→Prop
 | []=>True
 | g::gs=>(∀W W',Below W.heap.size W W'→g.stay W W')∧qdY gs
theorem qaA: ∀{gs:List GS},qdY gs→ ∀{j:Nat} {g:GS},gs[j]? =some g→ ∀W W',Below W.heap.size W W'→g.stay W W'
 | [],_,j,g,h,_,_,_=>by simp at h
 | _::_,hs,0,g,h,W,W',hb=>by simp at h;subst h;exact hs.1 W W' hb
 | _::gs,hs,j+1,g,h,W,W',hb=>qaA (gs:=gs) hs.2 (by simpa using h) W W' hb
def qc0 (W W':World)(s:Nat):Nat→List GS→Prop
 | _,[]=>True
 | n,g::gs=>(n=s∨g.stay W W')∧qc0 W W' s (n+1) gs
theorem qaB {W W':World}{s:Nat}: ∀{gs:List GS} {n:Nat},qc0 W W' s n gs→ ∀{j:Nat} {g:GS},gs[j]? =some g→n+j≠s→g.stay W W'
 | [],_,_,j,g,h,_=>by simp at h
 | _::_,n,hs,0,g,h,hne=>by
  simp at h;subst h
  rcases hs.1 with o|o
  ·exact absurd o (by simpa using hne)
  ·exact o
 | _::gs,n,hs,j+1,g,h,hne=>qaB (gs:=gs) hs.2 (by simpa using h) (by omega)
def Jv (l:List Oper)(gs:List GS):Bool:=(List.range l.length).all fun j=>match l[j]?,gs[j]? with
 | some oj,some (.far ds _)=>ds.all fun d=>oj.after.any fun e=>Region.binds .any e&&(match l[e.on]? with|some oe=>oe.dst==some d|none=>false)
 | _,_=>true
theorem zd {l:List Oper}{gs:List GS}(h:Jv l gs=true){j:Nat}{O:Oper}{ds:List Tmp}{q:List Value→World→Prop}(I:l[j]? =some O)(V:gs[j]? =some (.far ds q)){d:Tmp}(U:d∈ds):
  ∃e∈O.after,Region.binds .any e=true∧ ∃D,l[e.on]? =some D∧D.dst=some d:=by
 have G:j<l.length:=(List.getElem?_eq_some_iff.1 I).1;have J:=List.all_eq_true.1 h j (List.mem_range.2 G);rw[I,V]at J;obtain⟨e,S,o⟩:=Array.any_eq_true'.1 (List.all_eq_true.1 J d U);rw[Bool.and_eq_true]at o;refine⟨e,S,o.1,?_⟩
 cases ho:l[e.on]? with
 | none=>rw[ho]at o;simp at o
 | some D=>rw[ho]at o;exact⟨D,rfl,by simpa using o.2⟩
def qbD (gs:List GS)(s i:Nat)(o:Oper):Bool:=(match gs[i]? with|some (.far _ _)=>false|_=>true)&&i != s&&o.dst.isSome
def qbC (gs:List GS)(i:Nat)(v:Value)(W:World):Prop:=match gs[i]? with|some (.own q)=>q v W|_=>True
def atG (gs:List GS)(i:Nat)(x:Tmp→Value)(v:Value)(W:World):Prop:=match gs[i]? with|some (.far ds q)=>q (ds.map x) W|some (.own q)=>q v W|none=>True
def StepG (P:Program)(l:List Oper)(ds:List Tmp)(a0:Act)(Rb:Bool→World→Prop)(s:Nat)(gs:List GS)(Q:Exit→Act→World→Prop)(i:Nat)(o:Oper):Prop:=
 ∀(A:Act) (x:Tmp→Value) (W:World) (f:Bool),zP a0 x ds A→Rb f W→(jC l s i=true→f=false)→(∀e∈o.after,Region.binds .any e=true→QT l gs x W e.on)→
  ∀K:Act→World→Prop,(∀v W',Below W.heap.size W W'→qbC gs i v W'→K (A.put o.dst v) W')→Oper.wp P o A W K Q
def qhr (P:Program)(l:List Oper)(ds:List Tmp)(a0:Act)(Rb:Bool→World→Prop)(s:Nat)(gs:List GS)(Q:Exit→Act→World→Prop)(o:Oper):Prop:=
 ∀(A:Act) (x:Tmp→Value) (W:World),zP a0 x ds A→Rb false W→(∀e∈o.after,Region.binds .any e=true→QT l gs x W e.on)→
  ∀K:Act→World→Prop,(∀v W',(o.dst=none→v=undef)→Rb true W'→qc0 W W' s 0 gs→atG gs s x v W'→K (A.put o.dst v) W')→Oper.wp P o A W K Q
theorem qaC {l:List Oper}(D:yM l=true){i j:Nat}{o q:Oper}(I:l[i]? =some o)(J:l[j]? =some q)(G:j≠i)(x:Tmp→Value)(v:Value):qF (yz x o.dst v) q=qF x q:=by
 unfold qF yz
 cases hd:o.dst with
 | none=>rfl
 | some d=>
  cases hd':q.dst with
  | none=>rfl
  | some d'=>
   have:d'≠d:=fun e=>G ((Qu D I).2 j q d J hd (by rw[hd',e]))
   simp[upd,this]
theorem qax {P:Program}{id:Nat}{w:World}{Q:Exit→Act→World→Prop}{a0:Act}{L l tail:List Oper}{n:Nat}(J:L.take n=l)(ht:L.drop n=tail)(aq:Zp .any l tail=true)(Rb:Bool→World→Prop)(s:Nat)(ds:List Tmp)(gs:List GS)(ay:l.filterMap (·.dst)=ds)(aw:(ds.all fun d=>decide (d<a0.tmps.size))=true)(an:ds.Nodup)(I:yM l=true)
  (hg:(l.all fun o=>o.guard.isNone)=true) (ai:Jv l gs=true) (hs:s<l.length) (hm:P.follows .mixedOrders=true) (hw:Rb false w.drew) (av: ∀f W W',Rb f W→Below W.heap.size W W'→Rb f W') (ao:qdY gs)
  (ah:ye (fun i o=>(qbD gs s i o=true∧StepG P l ds a0 Rb s gs (qR P l tail Q) i o)∨(i=s∧qhr P l ds a0 Rb s gs (qR P l tail Q) o)) 0 l)
  (ak: ∀(x:Tmp→Value) (W:World),Rb true W→ye (fun i _=>QT l gs x W i) 0 l→qR P l tail Q .normal (lay a0 x ds) W):
  (Code.region id L.toArray true).wp P Q a0 w:=by
 have hL:L=l++tail:=by rw[←J,←ht];exact(List.take_append_drop _ _).symm
 clear J ht;subst hL;subst ay;have al:=fun o ho=>List.all_eq_true.1 hg o ho
 have am:=hs;refine wp_region_any hm ?_;have eL:(l++tail).toArray.size=l.length+tail.length:=by simp
 rw[eL];refine YY tail l aq ?_;have H:=qbH (P:=P) (ops:=l) (a0:=a0) (Q:=qR P l tail Q) (R:=fun D x W=>Rb (D s) W∧ ∀i,D i=true→QT l gs x W i) an I (fun i o J D x W hR ae ag hC K hK=>by
   have ho:=al o (List.mem_of_getElem? J);rw[Option.isNone_iff_eq_none]at ho;rw[if_pos (by simp[Region.wanted,ho])];have hL:zP a0 x (l.filterMap (·.dst)) (lay a0 x (l.filterMap (·.dst))):=Ja (fun d hd=>of_decide_eq_true (List.all_eq_true.1 aw d hd));have Z: ∀(j:Nat) (v:Value) (W':World),j≠i→D j=true→(∀g,gs[j]? =some g→g.stay W W')→QT l gs (yz x o.dst v) W' j:=fun j v W' G aa X=>by
    have V:=hR.2 j aa;unfold QT at V⊢
    cases hgj:gs[j]? with
    | none=>trivial
    | some g=>
     cases Y:l[j]? with
     | none=>cases g<;>trivial
     | some oj=>
      rw[hgj,Y]at V
      cases g with
      | own q=>
       show q (qF (yz x o.dst v) oj) W'
       rw[qaC I J Y G];exact X _ hgj _ V
      | far dl q=>
       show q (dl.map (yz x o.dst v)) W'
       have e:dl.map (yz x o.dst v)=dl.map x:=by
        refine List.map_congr_left fun d hd=>?_
        unfold yz
        cases hdo:o.dst with
        | none=>rfl
        | some d'=>
         have:d≠d':=by
          rintro rfl
          obtain⟨e,he,S,oe,af,ac⟩:=zd ai Y hgj hd;have h1:=(Qu I J).2 e.on oe d af hdo ac;have h2:=hC j oj Y aa e he S;rw[h1,ae]at h2
          cases h2
         simp[upd,this]
       rw[e];exact X _ hgj _ V
   rcases yY ah i o J with⟨O,hG⟩|⟨rfl,hS⟩
   ·unfold qbD at O;simp only[Bool.and_eq_true,bne_iff_ne]at O;refine hG _ x W (D s) hL hR.1 (fun ax=>?_) (fun e he S=>hR.2 _ (ag e he S)) K (fun v W' aj U=>hK v W' ⟨?_,fun j hj=>?_⟩)
    ·obtain⟨o',az,e,he,S,ar⟩:=JT ax
     cases hDs:D s with
     | false=>rfl
     | true=>
      have:=hC s o' az hDs e he S
      rw[ar,ae]at this;cases this
    ·have e:setD D i s=D s:=by
      have:(s==i)=false:=by rw[beq_eq_false_iff_ne];exact Ne.symm O.1.2
      simp[setD,this]
     rw[e];exact av _ _ _ hR.1 aj
    ·by_cases G:j=i
     ·subst G;unfold QT;unfold qbC at U
      cases hgj:gs[j]? with
      | none=>trivial
      | some g=>
       rw[hgj]at U O;rw[J]
       cases g with
       | own q=>
        obtain⟨d,hd⟩:=Option.isSome_iff_exists.1 O.2;have:qF (yz x o.dst v) o=v:=by unfold qF yz;rw[hd];simp[upd]
        show q (qF (yz x o.dst v) o) W'
        rw[this];exact U
       | far dl q=>simp at O
     ·have aa:D j=true:=by
       have S:(j==i)=false:=by rw[beq_eq_false_iff_ne];exact G
       simpa [setD,S] using hj
      exact Z j v W' G aa fun g ab=>qaA ao ab W W' aj
   ·refine hS _ x W hL (ae▸hR.1) (fun e he S=>hR.2 _ (ag e he S)) K (fun v W' hv ap X U=>?_);refine hK v W' ⟨?_,fun j hj=>?_⟩
    ·have:setD D i i=true:=by simp[setD]
     rw[this];exact ap
    ·by_cases G:j=i
     ·subst G;unfold QT;unfold atG at U
      cases hgj:gs[j]? with
      | none=>trivial
      | some g=>
       rw[hgj]at U;rw[J]
       cases g with
       | own q=>
        show q (qF (yz x o.dst v) o) W'
        have:qF (yz x o.dst v) o=v:=by
         unfold qF yz
         cases hd:o.dst with
         | none=>exact(hv hd).symm
         | some d=>simp[upd]
        rw[this];exact U
       | far dl q=>
        show q (dl.map (yz x o.dst v)) W'
        have e:dl.map (yz x o.dst v)=dl.map x:=by
         refine List.map_congr_left fun d hd=>?_
         unfold yz
         cases hdo:o.dst with
         | none=>rfl
         | some d'=>
          have:d≠d':=by
           rintro rfl
           obtain⟨e,he,S,oe,af,ac⟩:=zd ai J hgj hd;have h1:=(Qu I J).2 e.on oe d af hdo ac;have h2:=(Qu I J).1 e he S;omega
          simp[upd,this]
        rw[e];exact U
     ·have aa:D j=true:=by
       have S:(j==i)=false:=by rw[beq_eq_false_iff_ne];exact G
       simpa [setD,S] using hj
      exact Z j v W' G aa fun g ab=>qaB X ab (by simpa using G))
  (fun D x W hR hD=>ak x W (hD s▸hR.1) (by
   have: ∀(m:List Oper) (n:Nat),ye (fun i _=>QT l gs x W i) n m:=by
    intro m;induction m with
    | nil=>intro n;trivial
    | cons o m ih=>intro n;exact⟨hR.2 n (hD n),ih (n+1)⟩
   exact this l 0))
  l.length (Array.replicate l.length false) (fun d=>a0.tmps.getD d undef) w.drew (by simp) (by
   simp only[Array.toList_replicate,Zl,List.countP_replicate];simp) ⟨by
    have:(Array.replicate l.length false).getD s true=false:=by simp[Lh,am]
    show Rb ((Array.replicate l.length false).getD s true) w.drew
    rw[this];exact hw,fun i J=>by
    have aA: ¬i<l.length:=fun ad=>by simp[Lh,ad]at J
    unfold QT;rw[List.getElem?_eq_none (l:=l) (by omega)]
    cases gs[i]? with
    | none=>trivial
    | some g=>cases g<;>trivial⟩ (fun j oj au Y=>by
    have ad:j<l.length:=(List.getElem?_eq_some_iff.1 au).1;simp[Lh,ad]at Y)
 rw[z9]at H;exact H
theorem gw {a0 A:Act}{x:Tmp→Value}{ds:List Tmp}{gs:List GS}{l:List Oper}{W:World}{o:Array Edge}{v:Value}(G:zP a0 x ds A)
    (q: ∀e∈o,Region.binds .any e=true→QT l gs x W e.on) (i s:Nat)
    (J:s∈ds:=by decide) (D:(⟨i,.data⟩:Edge)∈o:=by simp) (I:QT l gs x W i=(x s=v):=by rfl):A.tmps.getD s undef=v:=by
  have:=q _ D rfl
  rw[I]at this;exact(G.1 s J).trans this
inductive Sp where
 | v (d:Tmp) (u:Value)
 | p (d:Tmp) (q:Value→World→Prop)
 | s (q:World→Prop)
 | f (d:Option Tmp) (ds:List Tmp) (q:List Value→World→Prop)
def Sp.dst:Sp→Option Tmp
 | .v d _=>some d
 | .p d _=>some d
 | .s _=>none
 | .f d _ _=>d
def Sp.says:Sp→Value→World→Prop
 | .v _ u=>fun y _=>y=u
 | .p _ q=>q
 | .s q=>fun _ W=>q W
 | .f _ _ _=>fun _ _=>True
def Sp.gs:Sp→GS
 | .v _ u=> .own fun y _=>y=u
 | .p _ q=> .own q
 | .s q=> .far [] fun _ W=>q W
 | .f _ ds q=> .far ds q
def QS:List Sp→Act→World→Nat→Prop
 | .v d u::_,A,_,0=>A.tmps.getD d undef=u
 | .p d q::_,A,W,0=>q (A.tmps.getD d undef) W
 | _::l,A,W,n+1=>QS l A W n
 | _,_,_,_=>True
def QJ (sp:List Sp)(A:Act)(W:World):List Edge→Prop
 | []=>True
 | ⟨i,.data⟩::l=>QS sp A W i∧QJ sp A W l
 | _::l=>QJ sp A W l
def Qx (a0:Act)(x:Tmp→Value):List Sp→Act
 | []=>a0
 | .v d u::l=>(Qx a0 x l).put (some d) u
 | .p d _::l=>(Qx a0 x l).put (some d) (x d)
 | .s _::l=>Qx a0 x l
 | .f (some d) _ _::l=>(Qx a0 x l).put (some d) (x d)
 | .f none _ _::l=>Qx a0 x l
def qaq (x:Tmp→Value)(W:World):List Sp→Prop
 | []=>True
 | .v _ _::l=>qaq x W l
 | .p d q::l=>q (x d) W∧qaq x W l
 | .s q::l=>q W∧qaq x W l
 | .f _ ds q::l=>q (ds.map x) W∧qaq x W l
def qdX:List Sp→Prop
 | []=>True
 | .p _ q::l=>(∀v W W',q v W→Below W.heap.size W W'→q v W')∧qdX l
 | .s q::l=>(∀W W',q W→Below W.heap.size W W'→q W')∧qdX l
 | _::l=>qdX l
def qaf:List Sp→Prop
 | []=>True
 | .p _ q::l=>(∀W W',Below W.heap.size W W'→ ∀v,q v W→q v W')∧qaf l
 | .s q::l=>(∀W W',Below W.heap.size W W'→q W→q W')∧qaf l
 | .f _ _ q::l=>(∀W W',Below W.heap.size W W'→ ∀v,q v W→q v W')∧qaf l
 | _::l=>qaf l
theorem Zr: ∀{sp:List Sp},qdX sp→qfx (sp.map Sp.says)
 | [],_=>trivial
 | .v _ _::_,h=>⟨fun _ _ _ h _=>h,Zr h⟩
 | .p _ _::_,h=>⟨h.1,Zr h.2⟩
 | .s _::_,h=>⟨fun _ W W'=>h.1 W W',Zr h.2⟩
 | .f _ _ _::_,h=>⟨fun _ _ _ h _=>h,Zr h⟩
theorem zG: ∀{sp:List Sp},qaf sp→qdY (sp.map Sp.gs)
 | [],_=>trivial
 | .v _ _::_,h=>⟨fun _ _ _ _ h=>h,zG h⟩
 | .p _ _::_,h=>⟨h.1,zG h.2⟩
 | .s _::_,h=>⟨fun W W' o _=>h.1 W W' o,zG h.2⟩
 | .f _ _ _::_,h=>⟨h.1,zG h.2⟩
theorem JK {sp:List Sp}{i:Nat}{s:Sp}(h:sp[i]? =some s)(v:Value)(W:World):QD (sp.map Sp.says) i v W=s.says v W:=by
 unfold QD;rw[List.getElem?_map,h];rfl
theorem JJ {sp:List Sp}{D:List Oper}{x:Tmp→Value}{i:Nat}{s:Sp}{o:Oper}(h:sp[i]? =some s)(G:D[i]? =some o)(W:World):
  QT D (sp.map Sp.gs) x W i=match s.gs with| .own q=>q (qF x o) W| .far ds q=>q (ds.map x) W:=by
 unfold QT;rw[List.getElem?_map,h,G]
 cases s<;>rfl
theorem JL {sp:List Sp}{q:List Oper}(D:q.map (·.dst)=sp.map Sp.dst){i:Nat}{o:Oper}(G:q[i]? =some o): ∃s,sp[i]? =some s∧s.dst=o.dst:=by
 have h:=congrArg (fun l:List (Option Tmp)=>l[i]?) D;simp only[List.getElem?_map,G,Option.map_some]at h
 cases hs:sp[i]? with
 | none=>rw[hs]at h;cases h
 | some s=>rw[hs]at h;exact⟨s,rfl,by simpa using h.symm⟩
theorem Z7: ∀{sp:List Sp} {A:Act} {W:World} {i:Nat},(∀d u,sp[i]? =some (.v d u)→A.tmps.getD d undef=u)→(∀d q,sp[i]? =some (.p d q)→q (A.tmps.getD d undef) W)→QS sp A W i
 | [],_,_,0,_,_=>trivial
 | [],_,_,_+1,_,_=>trivial
 | .v _ _::_,_,_,0,h,_=>h _ _ rfl
 | .p _ _::_,_,_,0,_,h=>h _ _ rfl
 | .s _::_,_,_,0,_,_=>trivial
 | .f _ _ _::_,_,_,0,_,_=>trivial
 | .v _ _::l,A,W,i+1,h,k=>Z7 (sp:=l) (A:=A) (W:=W) (i:=i) (fun d u e=>h d u (by simpa using e)) (fun d q e=>k d q (by simpa using e))
 | .p _ _::l,A,W,i+1,h,k=>Z7 (sp:=l) (A:=A) (W:=W) (i:=i) (fun d u e=>h d u (by simpa using e)) (fun d q e=>k d q (by simpa using e))
 | .s _::l,A,W,i+1,h,k=>Z7 (sp:=l) (A:=A) (W:=W) (i:=i) (fun d u e=>h d u (by simpa using e)) (fun d q e=>k d q (by simpa using e))
 | .f _ _ _::l,A,W,i+1,h,k=>Z7 (sp:=l) (A:=A) (W:=W) (i:=i) (fun d u e=>h d u (by simpa using e)) (fun d q e=>k d q (by simpa using e))
theorem zq {sp:List Sp}{A:Act}{W:World}: ∀(l:List Edge),(∀e∈l,Region.binds .any e=true→QS sp A W e.on)→QJ sp A W l
 | [],_=>trivial
 | ⟨_,.data⟩::l,h=>⟨h _ (List.mem_cons_self ..) rfl,zq l (fun e o=>h e (List.mem_cons_of_mem _ o))⟩
 | ⟨_,.chain⟩::l,h=>zq l (fun e o=>h e (List.mem_cons_of_mem _ o))
 | ⟨_,.guard⟩::l,h=>zq l (fun e o=>h e (List.mem_cons_of_mem _ o))
 | ⟨_,.phase⟩::l,h=>zq l (fun e o=>h e (List.mem_cons_of_mem _ o))
 | ⟨_,.textOnly _⟩::l,h=>zq l (fun e o=>h e (List.mem_cons_of_mem _ o))
 | ⟨_,.gcOnly _⟩::l,h=>zq l (fun e o=>h e (List.mem_cons_of_mem _ o))
theorem j7 {q:List Oper}{i:Nat}{o:Oper}{d:Tmp}(h:q[i]? =some o)(D:o.dst=some d):d∈q.filterMap (·.dst):=List.mem_filterMap.2 ⟨o,List.mem_of_getElem? h,D⟩
theorem qeQ (a0:Act){x:Tmp→Value}: ∀{sp:List Sp} {D:List Oper},D.map (·.dst)=sp.map Sp.dst→(∀(i:Nat) (d:Tmp) (u:Value),sp[i]? =some (.v d u)→x d=u)→lay a0 x (D.filterMap (·.dst))=Qx a0 x sp
 | [],[],_,_=>rfl
 | [],_::_,h,_=>by simp at h
 | _::_,[],h,_=>by simp at h
 | s::sp,o::D,h,hv=>by
  simp only[List.map_cons,List.cons.injEq]at h;have I:=qeQ a0 (x:=x) h.2 (fun i d u e=>hv (i+1) d u (by simpa using e))
  cases s with
  | v d u=>
   have G:o.dst=some d:=h.1;rw[List.filterMap_cons,G];show(lay a0 x (D.filterMap _)).put (some d) (x d)=(Qx a0 x sp).put (some d) u
   rw[I,hv 0 d u rfl]
  | p d q=>
   have G:o.dst=some d:=h.1;rw[List.filterMap_cons,G];show(lay a0 x (D.filterMap _)).put (some d) (x d)=(Qx a0 x sp).put (some d) (x d)
   rw[I]
  | s q=>
   have G:o.dst=none:=h.1;rw[List.filterMap_cons,G];exact I
  | f d ds q=>
   cases d with
   | none=>
    have G:o.dst=none:=h.1;rw[List.filterMap_cons,G];exact I
   | some d=>
    have G:o.dst=some d:=h.1;rw[List.filterMap_cons,G];show(lay a0 x (D.filterMap _)).put (some d) (x d)=(Qx a0 x sp).put (some d) (x d)
    rw[I]
theorem jh {x:Tmp→Value}{W:World}: ∀{sp:List Sp},(∀(i:Nat) (s:Sp),sp[i]? =some s→match s with| .v _ _=>True| .p d q=>q (x d) W| .s q=>q W| .f _ ds q=>q (ds.map x) W)→qaq x W sp
 | [],_=>trivial
 | .v _ _::l,h=>jh (sp:=l) (fun i s e=>h (i+1) s (by simpa using e))
 | .p _ _::l,h=>⟨h 0 _ rfl,jh (sp:=l) (fun i s e=>h (i+1) s (by simpa using e))⟩
 | .s _::l,h=>⟨h 0 _ rfl,jh (sp:=l) (fun i s e=>h (i+1) s (by simpa using e))⟩
 | .f _ _ _::l,h=>⟨h 0 _ rfl,jh (sp:=l) (fun i s e=>h (i+1) s (by simpa using e))⟩
theorem yR: ∀{q:List Oper} {sp:List Sp},q.map (·.dst)=sp.map Sp.dst→q.filterMap (·.dst)=sp.filterMap Sp.dst
 | [],[],_=>rfl
 | [],_::_,h=>by simp at h
 | _::_,[],h=>by simp at h
 | o::q,s::sp,h=>by
  simp only[List.map_cons,List.cons.injEq]at h;have D:=yR h.2;rw[List.filterMap_cons,List.filterMap_cons,h.1,D]
theorem depL {sp:List Sp}{D:List Oper}{a0 A:Act}{x:Tmp→Value}{ds:List Tmp}{W:World}{o:Array Edge}(aa:D.filterMap (·.dst)=ds)(hl:D.map (·.dst)=sp.map Sp.dst)(Z: ∀e∈o,e.on<D.length)(hA:zP a0 x ds A)
  (X: ∀e∈o,Region.binds .any e=true→ ∀G,D[e.on]? =some G→QD (sp.map Sp.says) e.on (qF x G) W):QJ sp A W o.toList:=by
 subst aa;refine zq _ fun e S hb=>?_
 have S:e∈o:=Array.mem_toList_iff.1 S;obtain⟨G,I⟩: ∃G,D[e.on]? =some G:=⟨_,List.getElem?_eq_getElem (Z e S)⟩;obtain⟨s,Y,U⟩:=JL hl I;have V:=X e S hb G I;rw[JK Y]at V;refine Z7 (fun d u J=>?_) (fun d q J=>?_)
 ·rw[Y]at J;obtain rfl:=Option.some.inj J;have O:G.dst=some d:=U.symm;rw[hA.1 d (j7 I O)];have:qF x G=x d:=by unfold qF;rw[O]
  rw[←this];exact V
 ·rw[Y]at J;obtain rfl:=Option.some.inj J;have O:G.dst=some d:=U.symm;rw[hA.1 d (j7 I O)];have:qF x G=x d:=by unfold qF;rw[O]
  rw[←this];exact V
theorem endL {sp:List Sp}{D:List Oper}{a0:Act}{x:Tmp→Value}{W:World}(S:D.map (·.dst)=sp.map Sp.dst)(V:(sp.all fun s=>match s with| .f _ _ _=>false|_=>true)=true)
  (h:ye (fun i o=>QD (sp.map Sp.says) i (qF x o) W) 0 D):qaq x W sp∧lay a0 x (D.filterMap (·.dst))=Qx a0 x sp:=by
 have U: ∀(i:Nat) (s:Sp),sp[i]? =some s→ ∃o,D[i]? =some o∧o.dst=s.dst∧s.says (qF x o) W:=fun i s I=>by
  have J:=congrArg (fun l:List (Option Tmp)=>l[i]?) S;simp only[List.getElem?_map,I,Option.map_some]at J
  cases ho:D[i]? with
  | none=>rw[ho]at J;cases J
  | some o=>
   rw[ho]at J;have G:=yY h i o ho;rw[JK I]at G;exact⟨o,rfl,by simpa using J,G⟩
 refine⟨jh fun i s I=>?_,qeQ a0 S fun i d u I=>?_⟩
 ·obtain⟨o, -,O,G⟩:=U i s I
  cases s with
  | v d u=>trivial
  | p d q=>
   have:qF x o=x d:=by unfold qF;rw[O];rfl
   show q (x d) W
   rw[←this];exact G
  | s q=>exact G
  | f d ds q=>exact absurd (List.all_eq_true.1 V _ (List.mem_of_getElem? I)) (by simp)
 ·obtain⟨o, -,O,G⟩:=U i _ I;have:qF x o=x d:=by unfold qF;rw[O];rfl
  rw[←this];exact G
def JO (l:List Oper):Bool:=l.all fun o=>o.after.all fun e=>decide (e.on<l.length)
theorem YM {l:List Oper}(h:JO l=true){i:Nat}{o:Oper}(D:l[i]? =some o): ∀e∈o.after,e.on<l.length:=fun e q=>
 of_decide_eq_true (Array.all_eq_true'.1 (List.all_eq_true.1 h o (List.mem_of_getElem? D)) e q)
def StepC (P:Program)(init:List Oper)(ds:List Tmp)(a0:Act)(B:Nat)(w0:World)(sp:List Sp)(Q:Exit→Act→World→Prop)(i:Nat)(o:Oper):Prop:=
 ∀(A:Act) (x:Tmp→Value) (W:World),zP a0 x ds A→Below B w0 W→B≤W.heap.size→(∀e∈o.after,Region.binds .any e=true→ ∀oe,init[e.on]? =some oe→QD (sp.map Sp.says) e.on (qF x oe) W)→QJ sp A W o.after.toList→
  ∀K:Act→World→Prop,(∀v W',Below W.heap.size W W'→QD (sp.map Sp.says) i v W'→K (A.put o.dst v) W')→Oper.wp P o A W K Q
theorem zN {p q:Nat→Oper→Prop}(l:List Oper): ∀(n:Nat) (m:List Oper),(∀i o,m[i]? =some o→p (n+i) o→q (n+i) o)→ye p n m→ye q n m
 | _,[],_,_=>trivial
 | n,o::m,h,k=>⟨h 0 o rfl k.1,zN l (n+1) m (fun i I G D=>by
   rw[show n+1+i=n+(i+1) by omega]at D⊢;exact h (i+1) I (by simpa using G) D) k.2⟩
theorem qA {P:Program}{id:Nat}{w w0:World}{Q:Exit→Act→World→Prop}{a0:Act}{B:Nat}{l q tail:List Oper}{n:Nat}{ds:List Tmp}(sp:List Sp)(ac:qdX sp)(hw:Below B w0 w.drew)(hB:B≤w0.heap.size)
  (J:ye (StepC P q ds a0 B w0 sp (qR P q tail Q)) 0 q)
  (U: ∀(x:Tmp→Value) (W:World),Below B w0 W→B≤W.heap.size→qaq x W sp→qR P q tail Q .normal (Qx a0 x sp) W)
  (hi:l.take n=q:=by dsimp only[List.take]) (ht:l.drop n=tail:=by dsimp only[List.drop]) (ad:sp.filterMap Sp.dst=ds:=by dsimp only[List.filterMap,Sp.dst]) (V:q.map (·.dst)=sp.map Sp.dst:=by rfl)
  (Z:(ds.all fun d=>decide (d<a0.tmps.size))=true:=by rfl) (aa:ds.Nodup:=by decide) (O:yM q=true:=by kernel_rfl)
  (hg:(q.all fun o=>o.guard.isNone&&o.dst.isSome)=true:=by rfl) (hb:Zp .any q tail=true:=by kernel_rfl) (ab:JO q=true:=by kernel_rfl) (hm:P.follows .mixedOrders=true:=by kernel_rfl)
  (ae:(sp.all fun s=>match s with| .f _ _ _=>false|_=>true)=true:=by rfl):
  (Code.region id l.toArray true).wp P Q a0 w:=by
 have D:q.filterMap (·.dst)=ds:=(yR V).trans ad;refine qag (n:=n) (w0:=w0) (B:=B) ds (sp.map Sp.says) hi ht D Z aa O hg hb hm hw hB (Zr ac) ?_ ?_
 ·refine zN q 0 q (fun i o ho h=>?_) J;rw[Nat.zero_add]at h⊢;exact fun A x W hA S G I K hK=>h A x W hA S G I (depL D V (YM ab ho) hA I) K hK
 ·intro x W S G X;obtain⟨h1,Y⟩:=endL (a0:=a0) V ae X;rw[D]at Y;rw[Y];exact U x W S G h1
def qio (P:Program)(init:List Oper)(ds:List Tmp)(a0:Act)(R:World→Prop)(sp:List Sp)(Q:Exit→Act→World→Prop)(i:Nat)(o:Oper):Prop:=
 ∀(A:Act) (x:Tmp→Value) (W:World),zP a0 x ds A→R W→(∀e∈o.after,Region.binds .any e=true→ ∀oe,init[e.on]? =some oe→QD (sp.map Sp.says) e.on (qF x oe) W)→QJ sp A W o.after.toList→
  ∀K:Act→World→Prop,(∀v W',R W'→(∀j u,j≠i→QD (sp.map Sp.says) j u W→QD (sp.map Sp.says) j u W')→QD (sp.map Sp.says) i v W'→K (A.put o.dst v) W')→Oper.wp P o A W K Q
theorem jN {P:Program}{id:Nat}{w:World}{Q:Exit→Act→World→Prop}{a0:Act}{l D tail:List Oper}{n:Nat}{ds:List Tmp}(R:World→Prop)(sp:List Sp)(hw:R w.drew)
  (S:ye (qio P D ds a0 R sp (qR P D tail Q)) 0 D)
  (Z: ∀(x:Tmp→Value) (W:World),R W→qaq x W sp→qR P D tail Q .normal (Qx a0 x sp) W)
  (O:l.take n=D:=by dsimp only[List.take]) (ht:l.drop n=tail:=by dsimp only[List.drop]) (ae:sp.filterMap Sp.dst=ds:=by dsimp only[List.filterMap,Sp.dst]) (X:D.map (·.dst)=sp.map Sp.dst:=by rfl)
  (ab:(ds.all fun d=>decide (d<a0.tmps.size))=true:=by rfl) (ac:ds.Nodup:=by decide) (U:yM D=true:=by kernel_rfl)
  (V:(D.all fun o=>o.guard.isNone)=true:=by rfl) (hb:Zp .any D tail=true:=by kernel_rfl) (ad:JO D=true:=by kernel_rfl) (hm:P.follows .mixedOrders=true:=by kernel_rfl)
  (af:(sp.all fun s=>match s with| .f _ _ _=>false|_=>true)=true:=by rfl):
  (Code.region id l.toArray true).wp P Q a0 w:=by
 have G:D.filterMap (·.dst)=ds:=(yR X).trans ae;refine qbk (n:=n) R ds (sp.map Sp.says) O ht G ab ac U V hb hm hw ?_ ?_ ?_
 ·have: ∀(m:List Oper) (n:Nat),(∀i o,m[i]? =some o→D[n+i]? =some o)→ye (fun i o=>o.dst=none→ ∀v W,QD (sp.map Sp.says) i v W→QD (sp.map Sp.says) i undef W) n m:=by
   intro m;induction m with
   | nil=>intro n _;trivial
   | cons o m ih=>
    intro n h;refine⟨fun hd v W V=>?_,ih (n+1) (fun i o' O=>by rw[show n+1+i=n+(i+1) by omega];exact h (i+1) o' (by simpa using O))⟩;have h0:D[n]? =some o:=h 0 o rfl;obtain⟨s,hs,I⟩:=JL X h0;rw[JK hs]at V⊢
    cases s with
    | v d u=>rw[hd]at I;cases I
    | p d q=>rw[hd]at I;cases I
    | s q=>exact V
    | f d ds q=>trivial
  exact this D 0 (fun i o O=>by rw[Nat.zero_add];exact O)
 ·refine zN D 0 D (fun i o ho h=>?_) S;rw[Nat.zero_add]at h⊢;exact fun A x W hA Y J K hK=>h A x W hA Y J (depL G X (YM ad ho) hA J) K hK
 ·intro x W Y aa;obtain⟨h1,h2⟩:=endL (a0:=a0) X af aa;rw[G]at h2;rw[h2];exact Z x W Y h1
theorem depG {sp:List Sp}{D:List Oper}{a0 A:Act}{x:Tmp→Value}{ds:List Tmp}{W:World}{o:Array Edge}(aa:D.filterMap (·.dst)=ds)(hl:D.map (·.dst)=sp.map Sp.dst)(Z: ∀e∈o,e.on<D.length)(hA:zP a0 x ds A)
  (X: ∀e∈o,Region.binds .any e=true→QT D (sp.map Sp.gs) x W e.on):QJ sp A W o.toList:=by
 subst aa;refine zq _ fun e S hb=>?_
 have S:e∈o:=Array.mem_toList_iff.1 S;obtain⟨I,G⟩: ∃I,D[e.on]? =some I:=⟨_,List.getElem?_eq_getElem (Z e S)⟩;obtain⟨s,Y,U⟩:=JL hl G;have V:=X e S hb;rw[JJ Y G]at V;refine Z7 (fun d u J=>?_) (fun d q J=>?_)
 ·rw[Y]at J;obtain rfl:=Option.some.inj J;have O:I.dst=some d:=U.symm;rw[hA.1 d (j7 G O)];have:qF x I=x d:=by unfold qF;rw[O]
  rw[←this];exact V
 ·rw[Y]at J;obtain rfl:=Option.some.inj J;have O:I.dst=some d:=U.symm;rw[hA.1 d (j7 G O)];have:qF x I=x d:=by unfold qF;rw[O]
  rw[←this];exact V
theorem endG {sp:List Sp}{D:List Oper}{a0:Act}{x:Tmp→Value}{W:World}(S:D.map (·.dst)=sp.map Sp.dst)
  (h:ye (fun i _=>QT D (sp.map Sp.gs) x W i) 0 D):qaq x W sp∧lay a0 x (D.filterMap (·.dst))=Qx a0 x sp:=by
 have U: ∀(i:Nat) (s:Sp),sp[i]? =some s→ ∃o,o.dst=s.dst∧(match s.gs with| .own q=>q (qF x o) W| .far ds q=>q (ds.map x) W):=fun i s I=>by
  have J:=congrArg (fun l:List (Option Tmp)=>l[i]?) S;simp only[List.getElem?_map,I,Option.map_some]at J
  cases ho:D[i]? with
  | none=>rw[ho]at J;cases J
  | some o=>
   rw[ho]at J;have G:=yY h i o ho;rw[JJ I ho]at G;exact⟨o,by simpa using J,G⟩
 refine⟨jh fun i s I=>?_,qeQ a0 S fun i d u I=>?_⟩
 ·obtain⟨o,O,G⟩:=U i s I
  cases s with
  | v d u=>trivial
  | p d q=>
   have:qF x o=x d:=by unfold qF;rw[O];rfl
   show q (x d) W
   rw[←this];exact G
  | s q=>exact G
  | f d ds q=>exact G
 ·obtain⟨o,O,G⟩:=U i _ I;have:qF x o=x d:=by unfold qF;rw[O];rfl
  rw[←this];exact G
def Sp.isOwn:Sp→Bool
 | .v _ _=>true
 | .p _ _=>true
 | _=>false
def qeH:List Sp→Nat→Nat→Bool
 | [],_,_=>true
 | x::l,n,s=>(n==s||x.isOwn)&&qeH l (n+1) s
theorem qcC: ∀{sp:List Sp} {n s:Nat},qeH sp n s=true→ ∀{j:Nat} {x:Sp},sp[j]? =some x→n+j≠s→x.isOwn=true
 | [],_,_,_,j,x,h,_=>by simp at h
 | y::_,n,s,h,0,x,hx,hne=>by
  simp only[qeH,Bool.and_eq_true,Bool.or_eq_true,beq_iff_eq]at h;simp at hx;subst hx
  exact h.1.resolve_left (by simpa using hne)
 | y::l,n,s,h,j+1,x,hx,hne=>by
  simp only[qeH,Bool.and_eq_true]at h;exact qcC (sp:=l) h.2 (by simpa using hx) (by omega)
def qhs (P:Program)(l:List Oper)(ds:List Tmp)(a0:Act)(Rb:Bool→World→Prop)(s:Nat)(sp:List Sp)(i:Nat)(Q:Exit→Act→World→Prop)(o:Oper):Prop:=
 ∀(A:Act) (x:Tmp→Value) (W:World) (f:Bool),zP a0 x ds A→Rb f W→(jC l s i=true→f=false)→(∀e∈o.after,Region.binds .any e=true→QT l (sp.map Sp.gs) x W e.on)→QJ sp A W o.after.toList→
  ∀K:Act→World→Prop,(∀v W',Below W.heap.size W W'→qbC (sp.map Sp.gs) i v W'→K (A.put o.dst v) W')→Oper.wp P o A W K Q
theorem Yz {P:Program}{id:Nat}{w:World}{Q:Exit→Act→World→Prop}{a0:Act}{L l tail:List Oper}{n:Nat}{ds:List Tmp}{o:Oper}(G:Bool→World→Prop)(s:Nat)(sp:List Sp)(ah:qaf sp)(hw:G false w.drew)(ai: ∀f W W',G f W→Below W.heap.size W W'→G f W')
  (U:ye (fun i o=>i=s∨qhs P l ds a0 G s sp i (qR P l tail Q) o) 0 l)
  (S:qhr P l ds a0 G s (sp.map Sp.gs) (qR P l tail Q) o)
  (ab: ∀(x:Tmp→Value) (W:World),G true W→qaq x W sp→qR P l tail Q .normal (Qx a0 x sp) W)
  (hi:L.take n=l:=by dsimp only[List.take]) (ht:L.drop n=tail:=by dsimp only[List.drop]) (ak:Zp .any l tail=true:=by kernel_rfl) (aj:sp.filterMap Sp.dst=ds:=by dsimp only[List.filterMap,Sp.dst]) (X:l.map (·.dst)=sp.map Sp.dst:=by rfl)
  (ad:(ds.all fun d=>decide (d<a0.tmps.size))=true:=by rfl) (ae:ds.Nodup:=by decide) (V:yM l=true:=by kernel_rfl) (hg:(l.all fun o=>o.guard.isNone)=true:=by rfl) (ag:Jv l (sp.map Sp.gs)=true:=by kernel_rfl)
  (ho:l[s]? =some o:=by rfl) (aa:qeH sp 0 s=true:=by rfl) (af:JO l=true:=by kernel_rfl) (hm:P.follows .mixedOrders=true:=by kernel_rfl):
  (Code.region id L.toArray true).wp P Q a0 w:=by
 have I:l.filterMap (·.dst)=ds:=(yR X).trans aj;have hs:s<l.length:=(List.getElem?_eq_some_iff.1 ho).1;refine qax hi ht ak G s ds (sp.map Sp.gs) I ad ae V hg ag hs hm hw ai (zG ah) ?_ ?_
 ·refine zN l 0 l (fun i o' J h=>?_) U;rw[Nat.zero_add]at h⊢;by_cases D:i=s
  ·subst D;rw[ho]at J;obtain rfl:=Option.some.inj J;exact .inr ⟨rfl,S⟩
  ·refine .inl ⟨?_,fun A x W f hA hR hf O K hK=>h.resolve_left D A x W f hA hR hf O (depG I X (YM af J) hA O) K hK⟩;obtain⟨x,hx,Y⟩:=JL X J;have Z:=qcC aa hx (by rw[Nat.zero_add];exact D);unfold qbD;rw[List.getElem?_map,hx]
   cases x with
   | v d u=>simp[Sp.gs,D,←Y,Sp.dst]
   | p d q=>simp[Sp.gs,D,←Y,Sp.dst]
   | s q=>cases Z
   | f d ds q=>cases Z
 ·intro x W hR ac;obtain⟨h1,h2⟩:=endG (a0:=a0) X ac;rw[I]at h2;rw[h2];exact ab x W hR h1
theorem Q3 {P:Program}{id:Nat}{w:World}{Q:Exit→Act→World→Prop}{a0:Act}{l:List Oper}{ds:List Tmp}{o:Oper}(q:Bool→World→Prop)(s:Nat)(sp:List Sp)(Y:qaf sp)(hw:q false w.drew)(Z: ∀f W W',q f W→Below W.heap.size W W'→q f W')
  (G:ye (fun i o=>i=s∨qhs P l ds a0 q s sp i Q o) 0 l)
  (D:qhr P l ds a0 q s (sp.map Sp.gs) Q o)
  (O: ∀(x:Tmp→Value) (W:World),q true W→qaq x W sp→Q .normal (Qx a0 x sp) W)
  (aa:sp.filterMap Sp.dst=ds:=by dsimp only[List.filterMap,Sp.dst]) (hl:l.map (·.dst)=sp.map Sp.dst:=by rfl)
  (S:(ds.all fun d=>decide (d<a0.tmps.size))=true:=by rfl) (U:ds.Nodup:=by decide) (I:yM l=true:=by kernel_rfl) (hg:(l.all fun o=>o.guard.isNone)=true:=by rfl) (X:Jv l (sp.map Sp.gs)=true:=by kernel_rfl)
  (ho:l[s]? =some o:=by rfl) (J:qeH sp 0 s=true:=by rfl) (V:JO l=true:=by kernel_rfl) (hm:P.follows .mixedOrders=true:=by kernel_rfl):
  (Code.region id l.toArray true).wp P Q a0 w:=
 Yz (n:=l.length) (l:=l) (tail:=[]) q s sp Y hw Z G D O (by simp) (by simp) rfl aa hl S U I hg X ho J V hm
end Go.Proofs.YthjoojnlnlmljaaGreat
