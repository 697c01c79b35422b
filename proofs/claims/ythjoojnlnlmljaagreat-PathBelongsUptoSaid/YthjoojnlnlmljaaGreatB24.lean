/- A region that draws its order, in a world that grows only: each operation's slot says what it must, in whatever order; then a tail of operations of which each waits for all before it. No condition. -/
import Derived.Test.YthjoojnlnlmljaaGreatB21
import Derived.Test.YthjoojnlnlmljaaGreatB14
import Derived.Test.YthjoojnlnlmljaaGreatB02
import Derived.Below
import Derived.Laws.Tables
set_option linter.all false
set_option maxRecDepth 100000
set_option maxHeartbeats 8000000
namespace Go.Proofs.YthjoojnlnlmljaaGreat
open Go Go.RowKit
theorem z8 {P:Program}{o:Oper}{a:Act}{w:World}{K:Act→World→Prop}{Q:Exit→Act→World→Prop}(t:TypeId)(q:Array (Nat×Operand))(G:o.op= .build t q)(r:Array Value)
  (D:P.built t (q.map fun(i,x)=>(i,a.eval x)).toList=some r) (h:K (a.put o.dst (.agg r)) w):o.wp P a w K Q:=
 wp_build t q G (by rw[D];rfl) (by rw[D];exact h)
def yy (p:Nat→Oper→Prop):Nat→List Oper→Prop
 | _,[]=>True
 | n,o::l=>p n o∧yy p (n+1) l
theorem qw {p:Nat→Oper→Prop}{n:Nat}{o:Oper}{l:List Oper}(h:p n o)(q:yy p (n+1) l):yy p n (o::l):=⟨h,q⟩
theorem qB {p:Nat→Oper→Prop}{n:Nat}:yy p n []:=trivial
theorem qe8 {p:Nat→Oper→Prop}: ∀(l:List Oper) (n:Nat),yy p n l→ ∀i o,l[i]? =some o→p (n+i) o
 | [],_,_,i,o,hi=>by simp at hi
 | _::_,n,h,0,o,hi=>by simp at hi;subst hi;exact h.1
 | _::l,n,h,i+1,o,hi=>by
  have:=qe8 l (n+1) h.2 i o (by simpa using hi)
  rw[show n+(i+1)=n+1+i by omega];exact this
theorem YD {p:Nat→Oper→Prop}{l:List Oper}(h:yy p 0 l): ∀i o,l[i]? =some o→p i o:=fun i o hi=>by
 have:=qe8 l 0 h i o hi
 rwa[Nat.zero_add]at this
def QY (gs:List (Value→World→Prop))(i:Nat)(v:Value)(W:World):Prop:=match gs[i]? with
 | some g=>g v W
 | none=>True
def qg0:List (Value→World→Prop)→Prop
 | []=>True
 | g::gs=>(∀v W W',g v W→Below W.heap.size W W'→g v W')∧qg0 gs
theorem qb3: ∀{gs:List (Value→World→Prop)},qg0 gs→ ∀{i:Nat} {v:Value} {W W':World},QY gs i v W→Below W.heap.size W W'→QY gs i v W'
 | [],_,i,v,W,W',_,_=>by unfold QY;simp
 | g::gs,h,0,v,W,W',hg,hb=>h.1 v W W' hg hb
 | g::gs,h,i+1,v,W,W',hg,hb=>by
  have:=qb3 (gs:=gs) h.2 (i:=i) (v:=v) (W:=W) (W':=W') (by unfold QY at hg⊢;simpa using hg) hb
  unfold QY at this⊢;simpa using this
def Z9 (md:Region.Mode):List Oper→List Oper→Bool
 | _,[]=>true
 | init,o::t=>qas md init o init.length&&qdh md init&&Z9 md (init++[o]) t
def Qa (P:Program):List Oper→List Oper→(Exit→Act→World→Prop)→Exit→Act→World→Prop
 | _,[],Q=>Q
 | init,o::t,Q=>J8 P (init++[o]).toArray o (Qa P (init++[o]) t Q)
theorem qr {P:Program}{q t:List Oper}{o:Oper}{Q:Exit→Act→World→Prop}{a:Act}{w:World}(h:wpList P (q++[o]).toArray (Qa P (q++[o]) t Q) [o] a w):Qa P q (o::t) Q .normal a w:=h
theorem qv {P:Program}{o:List Oper}{Q:Exit→Act→World→Prop}{a:Act}{w:World}(h:Q .normal a w):Qa P o [] Q .normal a w:=h
theorem zP {P:Program}{md:Region.Mode}{Q:Exit→Act→World→Prop}{a:Act}{w:World}: ∀(tail q:List Oper),Z9 md q tail=true→
  wpAny P md q.toArray (Qa P q tail Q) q.length (Array.replicate q.length false) a w→wpAny P md (q++tail).toArray Q (q.length+tail.length) (Array.replicate (q.length+tail.length) false) a w
 | [],q,_,h=>by simpa [Qa] using h
 | o::t,q,hb,h=>by
  simp only[Z9,Bool.and_eq_true]at hb;have J:=zP (P:=P) (Q:=Q) (a:=a) (w:=w) t (q++[o]) hb.2 (by
   have r:(q++[o]).toArray=q.toArray.push o:=by simp
   have I:(q++[o]).length=q.length+1:=by simp
   have S:Array.replicate (q.length+1) false=(Array.replicate q.length false).push false:=by
    rw[Array.replicate_succ]
   rw[I,S,r];refine Jr (by simpa using hb.1.1) (by simpa using hb.1.2) _ _ _ _ (by simp) ?_ (by rw[←r];exact h);intro j U O D;exfalso
   have G:=(Ai O).1;simp only[List.size_toArray]at G;rw[Lh,Array.getElem?_replicate,if_pos G]at D
   cases D)
  have r:q++[o]++t=q++o::t:=by simp
  have I:(q++[o]).length+t.length=q.length+(o::t).length:=by simp;omega
  rw[r,I]at J;exact J
theorem qeS (a0:Act)(x:Tmp→Value): ∀ds,(lay a0 x ds).tmps.size=a0.tmps.size
 | []=>rfl
 | d::ds=>by
  show((lay a0 x ds).put (some d) (x d)).tmps.size=_
  simp[Act.put,qeS a0 x ds]
theorem qgQ (a0:Act)(x:Tmp→Value){d:Tmp}: ∀ds,d∉ds→(lay a0 x ds).tmps.getD d undef=a0.tmps.getD d undef
 | [],_=>rfl
 | e::ds,h=>by
  show((lay a0 x ds).put (some e) (x e)).tmps.getD d undef=_
  have q:e≠d:=fun o=>h (by simp[o])
  rw[←qgQ a0 x ds (fun o=>h (by simp[o]))];simp[Act.put,Lh,Array.getElem?_setIfInBounds,q]
theorem qiF (a0:Act)(x:Tmp→Value){d:Tmp}(r:d<a0.tmps.size): ∀ds,d∈ds→(lay a0 x ds).tmps.getD d undef=x d
 | e::ds,h=>by
  show((lay a0 x ds).put (some e) (x e)).tmps.getD d undef=_
  by_cases q:e=d
  ·subst q;have D:e<(lay a0 x ds).tmps.size:=by rw[qeS];exact r
   simp[Act.put,Lh,Array.getElem?_setIfInBounds,D]
  ·have o:d∈ds:=by
    rcases List.mem_cons.1 h with o|o
    ·exact absurd o.symm q
    ·exact o
   rw[←qiF a0 x r ds o];simp[Act.put,Lh,Array.getElem?_setIfInBounds,q]
def ZU (a0:Act)(x:Tmp→Value)(ds:List Tmp)(A:Act):Prop:=(∀d,d∈ds→A.tmps.getD d undef=x d)∧ ∀d,d∉ds→A.tmps.getD d undef=a0.tmps.getD d undef
theorem JV {a0:Act}{x:Tmp→Value}{ds:List Tmp}(h: ∀d∈ds,d<a0.tmps.size):ZU a0 x ds (lay a0 x ds):=⟨fun d o=>qiF a0 x (h d o) ds o,fun d o=>qgQ a0 x ds o⟩
def StepO (P:Program)(init:List Oper)(ds:List Tmp)(a0:Act)(B:Nat)(w0:World)(gs:List (Value→World→Prop))(Q:Exit→Act→World→Prop)(i:Nat)(o:Oper):Prop:=
 ∀(A:Act) (x:Tmp→Value) (W:World),ZU a0 x ds A→Below B w0 W→B≤W.heap.size→(∀e∈o.after,Region.binds .any e=true→ ∀oe,init[e.on]? =some oe→QY gs e.on (qL x oe) W)→
  ∀K:Act→World→Prop,(∀v W',Below W.heap.size W W'→QY gs i v W'→K (A.put o.dst v) W')→Oper.wp P o A W K Q
theorem qba {P:Program}{id:Nat}{w w0:World}{Q:Exit→Act→World→Prop}{a0:Act}{B:Nat}{l q tail:List Oper}{n:Nat}(ds:List Tmp)(gs:List (Value→World→Prop))(hi:l.take n=q)(ht:l.drop n=tail)(ab:q.filterMap (·.dst)=ds)(aa:(ds.all fun d=>decide (d<a0.tmps.size))=true)(ae:ds.Nodup)(I:YE q=true)
  (hg:(q.all fun o=>o.guard.isNone&&o.dst.isSome)=true) (hb:Z9 .any q tail=true) (hm:P.follows .mixedOrders=true) (hw:Below B w0 w.drew) (hB:B≤w0.heap.size) (Z:qg0 gs)
  (J:yy (StepO P q ds a0 B w0 gs (Qa P q tail Q)) 0 q)
  (Y: ∀(x:Tmp→Value) (W:World),Below B w0 W→B≤W.heap.size→yy (fun i o=>QY gs i (qL x o) W) 0 q→Qa P q tail Q .normal (lay a0 x ds) W):
  (Code.region id l.toArray true).wp P Q a0 w:=by
 have U:l=q++tail:=by rw[←hi,←ht];exact(List.take_append_drop _ _).symm
 clear hi ht;subst U;subst ab;have G:=fun o r=>List.all_eq_true.1 hg o r
 refine wp_region_any hm ?_;have e:(q++tail).toArray.size=q.length+tail.length:=by simp
 rw[e];refine zP tail q hb ?_;have H:=qcH (P:=P) (ops:=q) (a0:=a0) (Q:=Qa P q tail Q) (R:=fun W=>Below B w0 W) (Good:=QY gs) ae I (fun i o hi x W D X K hK=>by
   have r:=G o (List.mem_of_getElem? hi);simp only[Bool.and_eq_true,Option.isNone_iff_eq_none]at r;have S:B≤W.heap.size:=Nat.le_trans hB D.size;rw[if_pos (by simp[Region.wanted,r.1])];exact YD J i o hi _ x W (JV (fun d V=>of_decide_eq_true (List.all_eq_true.1 aa d V))) D S X K (fun v W' O ad=>hK v W' (D.trans (O.mono S)) (fun j u _ hj=>qb3 Z hj O) ad))
  (fun i o v W hi V=>by
   have r:=G o (List.mem_of_getElem? hi);rw[V]at r;simp at r)
  (fun x W D hG=>Y x W D (Nat.le_trans hB D.size) (by
   have: ∀(l:List Oper) (n:Nat),(∀i o,l[i]? =some o→QY gs (n+i) (qL x o) W)→yy (fun i o=>QY gs i (qL x o) W) n l:=by
    intro l;induction l with
    | nil=>intro n _;trivial
    | cons o l ih=>
     intro n h;refine⟨by simpa using h 0 o (by simp),ih (n+1) (fun i o' hi=>?_)⟩;have:=h (i+1) o' (by simpa using hi)
     rw[show n+1+i=n+(i+1) by omega];exact this
   exact this q 0 (fun i o hi=>by rw[Nat.zero_add];exact hG i o hi)))
  q.length (Array.replicate q.length false) (fun d=>a0.tmps.getD d undef) w.drew (by simp) (by
   simp only[Array.toList_replicate,Z7,List.countP_replicate];simp) hw (fun i o hi U=>by
   have ac:i<q.length:=(List.getElem?_eq_some_iff.1 hi).1;simp[Lh,ac]at U)
 rw[jR]at H;exact H
def StepR (P:Program)(init:List Oper)(ds:List Tmp)(a0:Act)(R:World→Prop)(gs:List (Value→World→Prop))(Q:Exit→Act→World→Prop)(i:Nat)(o:Oper):Prop:=
 ∀(A:Act) (x:Tmp→Value) (W:World),ZU a0 x ds A→R W→(∀e∈o.after,Region.binds .any e=true→ ∀oe,init[e.on]? =some oe→QY gs e.on (qL x oe) W)→
  ∀K:Act→World→Prop,(∀v W',R W'→(∀j u,j≠i→QY gs j u W→QY gs j u W')→QY gs i v W'→K (A.put o.dst v) W')→Oper.wp P o A W K Q
theorem qcm {P:Program}{id:Nat}{w:World}{Q:Exit→Act→World→Prop}{a0:Act}{l q tail:List Oper}{n:Nat}(R:World→Prop)(ds:List Tmp)(gs:List (Value→World→Prop))(hi:l.take n=q)(ht:l.drop n=tail)(Z:q.filterMap (·.dst)=ds)(Y:(ds.all fun d=>decide (d<a0.tmps.size))=true)(ac:ds.Nodup)(D:YE q=true)
  (hg:(q.all fun o=>o.guard.isNone)=true) (hb:Z9 .any q tail=true) (hm:P.follows .mixedOrders=true) (hw:R w.drew)
  (X:yy (fun i o=>o.dst=none→ ∀v W,QY gs i v W→QY gs i undef W) 0 q)
  (G:yy (StepR P q ds a0 R gs (Qa P q tail Q)) 0 q)
  (V: ∀(x:Tmp→Value) (W:World),R W→yy (fun i o=>QY gs i (qL x o) W) 0 q→Qa P q tail Q .normal (lay a0 x ds) W):
  (Code.region id l.toArray true).wp P Q a0 w:=by
 have I:l=q++tail:=by rw[←hi,←ht];exact(List.take_append_drop _ _).symm
 clear hi ht;subst I;subst Z;have J:=fun o r=>List.all_eq_true.1 hg o r
 refine wp_region_any hm ?_;have e:(q++tail).toArray.size=q.length+tail.length:=by simp
 rw[e];refine zP tail q hb ?_;have H:=qcH (P:=P) (ops:=q) (a0:=a0) (Q:=Qa P q tail Q) (R:=R) (Good:=QY gs) ac D (fun i o hi x W S U K hK=>by
   have r:=J o (List.mem_of_getElem? hi);simp only[Option.isNone_iff_eq_none]at r;rw[if_pos (by simp[Region.wanted,r])];exact YD G i o hi _ x W (JV (fun d O=>of_decide_eq_true (List.all_eq_true.1 Y d O))) S U K hK)
  (fun i o v W hi O ab=>YD X i o hi O v W ab)
  (fun x W S hG=>V x W S (by
   have: ∀(l:List Oper) (n:Nat),(∀i o,l[i]? =some o→QY gs (n+i) (qL x o) W)→yy (fun i o=>QY gs i (qL x o) W) n l:=by
    intro l;induction l with
    | nil=>intro n _;trivial
    | cons o l ih=>
     intro n h;refine⟨by simpa using h 0 o (by simp),ih (n+1) (fun i o' hi=>?_)⟩;have:=h (i+1) o' (by simpa using hi)
     rw[show n+1+i=n+(i+1) by omega];exact this
   exact this q 0 (fun i o hi=>by rw[Nat.zero_add];exact hG i o hi)))
  q.length (Array.replicate q.length false) (fun d=>a0.tmps.getD d undef) w.drew (by simp) (by
   simp only[Array.toList_replicate,Z7,List.countP_replicate];simp) hw (fun i o hi I=>by
   have aa:i<q.length:=(List.getElem?_eq_some_iff.1 hi).1;simp[Lh,aa]at I)
 rw[jR]at H;exact H
theorem BR {B:Nat}{w:World}:Below B w w:=Below.refl _ _
theorem kW {g:Value→Prop}: ∀(W W':World),Below W.heap.size W W'→ ∀v,g v→g v:=fun _ _ _ _ h=>h
theorem gv {a0 A:Act}{x:Tmp→Value}{ds:List Tmp}{gs:List (Value→World→Prop)}{r:List Oper}{W:World}{o:Array Edge}{v:Value}{q:Oper}(J:ZU a0 x ds A)
    (D: ∀e∈o,Region.binds .any e=true→ ∀q,r[e.on]? =some q→QY gs e.on (qL x q) W) (i s:Nat)
    (G:s∈ds:=by decide) (I:(⟨i,.data⟩:Edge)∈o:=by simp) (S:r[i]? =some q:=by rfl) (U:qL x q=x s:=by rfl) (O:QY gs i=(fun u _=>u=v):=by rfl):A.tmps.getD s undef=v:=by
  have:=D _ I rfl q S
  rw[O,U]at this;exact(J.1 s G).trans this
def setD (D:Nat→Bool)(i:Nat):Nat→Bool:=fun j=>D j||j==i
def Ya (x:Tmp→Value)(d:Option Tmp)(v:Value):Tmp→Value:=match d with|some d=>upd x d v|none=>x
def qbp (ops:List Oper)(D:Nat→Bool):Prop:= ∀j oj,ops[j]? =some oj→D j=true→ ∀e∈oj.after,Region.binds .any e=true→D e.on=true
theorem qiE (a0:Act)(x:Tmp→Value){ops:List Oper}(q:(ops.filterMap (·.dst)).Nodup){i:Nat}{o:Oper}(hi:ops[i]? =some o)(v:Value):
  (lay a0 x (ops.filterMap (·.dst))).put o.dst v=lay a0 (Ya x o.dst v) (ops.filterMap (·.dst)):=by
 cases hd:o.dst with
 | none=>rfl
 | some d=>exact qbn a0 x d v _ q (List.mem_filterMap.2 ⟨o,List.mem_of_getElem? hi,hd⟩)
section
variable {P:Program} {ops:List Oper} {a0:Act} {Q:Exit→Act→World→Prop} {R:(Nat→Bool)→(Tmp→Value)→World→Prop}
theorem qcI (ak:(ops.filterMap (·.dst)).Nodup)(ac:YE ops=true)
  (ad: ∀(i:Nat) (o:Oper),ops[i]? =some o→ ∀(D:Nat→Bool) (x:Tmp→Value) (W:World),R D x W→D i=false→(∀e∈o.after,Region.binds .any e=true→D e.on=true)→qbp ops D→
   ∀K:Act→World→Prop,(∀v W',R (setD D i) (Ya x o.dst v) W'→K ((lay a0 x (ops.filterMap (·.dst))).put o.dst v) W')→
   if Region.wanted o (yielded ops.toArray (lay a0 x (ops.filterMap (·.dst))).tmps)=true then Oper.wp P o (lay a0 x (ops.filterMap (·.dst))) W K Q else K ((lay a0 x (ops.filterMap (·.dst))).put o.dst undef) W)
  (Z: ∀(D:Nat→Bool) (x:Tmp→Value) (W:World),R D x W→(∀i,D i=true)→Q .normal (lay a0 x (ops.filterMap (·.dst))) W):
  ∀(fuel:Nat) (q:Array Bool) (x:Tmp→Value) (W:World),q.size=ops.length→Z7 q.toList≤fuel→R (fun j=>q.getD j true) x W→qbp ops (fun j=>q.getD j true)→
   wpAny P .any ops.toArray Q fuel q (lay a0 x (ops.filterMap (·.dst))) W:=by
 intro fuel;induction fuel with
 | zero=>
  intro q x W hs ht hR hC;have X: ∀i,q.getD i true=true:=fun i=>by
   have:=qac (l:=q.toList) (by omega) i
   simpa [Lh,Lg] using this
  refine⟨?_,Z _ x W hR X⟩;rw[List.eq_nil_iff_forall_not_mem];intro j hj;have:=(mem_ready.1 hj).1
  rw[X j]at this
  cases this
 | succ fuel ih=>
  intro q x W hs ht hR hC;refine⟨fun hr=>Z _ x W hR ?_,fun i hi=>?_⟩
  ·intro j;show q.getD j true=true
   induction j using Nat.strongRecOn with
   | _ j ihj=>
    cases hl:q.getD j true with
    | true=>rfl
    | false=>
     have hj:j<q.size:=by
      rw[Lh]at hl
      cases e:q[j]? with
      | none=>rw[e]at hl;cases hl
      | some b=>exact(Ai e).1
     obtain⟨O,U⟩: ∃O,ops[j]? =some O:=⟨ops[j]'(by omega),by simp[show j<ops.length by omega]⟩;have hm:j∈Region.ready .any ops.toArray q:=mem_ready.2 ⟨hl,O,by simpa using U,fun e S J=>by
      have ai:=(QF ac U).1 e S J;have h2:=ihj e.on ai;have af:e.on<q.size:=by omega
      simp only[Lh,Array.getElem?_eq_getElem af,Option.getD_some]at h2⊢;exact h2⟩
     rw[hr]at hm;cases hm
  ·obtain⟨Y,o,U,ah⟩:=mem_ready.1 hi;have G:ops[i]? =some o:=by simpa using U
   have V:i<q.size:=by
    have:=(List.getElem?_eq_some_iff.1 G).1
    omega
   have ag:q.toList[i]? =some false:=by
    rw[Lh,Array.getElem?_eq_getElem V,Option.getD_some]at Y;rw[Array.getElem?_toList,Array.getElem?_eq_getElem V,Y]
   have ab:Z7 (q.setIfInBounds i true).toList≤fuel:=by
    have:=JI q.toList i ag
    rw[Array.toList_setIfInBounds];omega
   have I: ∀e∈o.after,Region.binds .any e=true→q.getD e.on true=true:=fun e S J=>by
    have h6:=ah e S J;rw[Lh]at h6⊢
    cases e':q[e.on]? with
    | none=>rfl
    | some b=>rw[e']at h6;exact h6
   have aa:(fun j=>(q.setIfInBounds i true).getD j true)=setD (fun j=>q.getD j true) i:=by
    funext j
    simp only[setD,Lh,Array.getElem?_setIfInBounds];by_cases e:i=j
    ·subst e;simp[V]
    ·simp[e,Ne.symm e]
   refine wpOp_step U fun K hK=>ad i o G _ x W hR Y I hC K fun v W' aj=>?_
   rw[qiE a0 x ak G v];refine hK _ _ ?_;refine ih _ (Ya x o.dst v) W' (by simpa using hs) ab (by rw[aa];exact aj) ?_;intro j O ae r e S J;rw[aa]at r⊢;simp only[setD,Bool.or_eq_true,beq_iff_eq]at r⊢;rcases r with r|rfl
   ·exact .inl (hC j O ae r e S J)
   ·obtain rfl:o=O:=Option.some.inj (G.symm.trans ae);exact .inl (I e S J)
end
inductive GS where
 | own (q:Value→World→Prop)
 | far (ds:List Tmp) (q:List Value→World→Prop)
def yg (l:List Oper)(gs:List GS)(x:Tmp→Value)(W:World)(j:Nat):Prop:=match gs[j]?,l[j]? with
 | some (.own q),some o=>q (qL x o) W
 | some (.far ds q),some _=>q (ds.map x) W
 | _,_=>True
def GS.stay:GS→World→World→Prop
 | .own q,W,W'=> ∀v,q v W→q v W'
 | .far _ q,W,W'=> ∀v,q v W→q v W'
def qfp:List GS→Prop
 | []=>True
 | g::gs=>(∀W W',Below W.heap.size W W'→g.stay W W')∧qfp gs
theorem qbz: ∀{gs:List GS},qfp gs→ ∀{j:Nat} {g:GS},gs[j]? =some g→ ∀W W',Below W.heap.size W W'→g.stay W W'
 | [],_,j,g,h,_,_,_=>by simp at h
 | _::_,hs,0,g,h,W,W',hb=>by simp at h;subst h;exact hs.1 W W' hb
 | _::gs,hs,j+1,g,h,W,W',hb=>qbz (gs:=gs) hs.2 (by simpa using h) W W' hb
def qd7 (W W':World)(s:Nat):Nat→List GS→Prop
 | _,[]=>True
 | n,g::gs=>(n=s∨g.stay W W')∧qd7 W W' s (n+1) gs
theorem qbA {W W':World}{s:Nat}: ∀{gs:List GS} {n:Nat},qd7 W W' s n gs→ ∀{j:Nat} {g:GS},gs[j]? =some g→n+j≠s→g.stay W W'
 | [],_,_,j,g,h,_=>by simp at h
 | _::_,n,hs,0,g,h,hne=>by
  simp at h;subst h
  rcases hs.1 with o|o
  ·exact absurd o (by simpa using hne)
  ·exact o
 | _::gs,n,hs,j+1,g,h,hne=>qbA (gs:=gs) hs.2 (by simpa using h) (by omega)
def qae (l:List Oper)(gs:List GS):Bool:=(List.range l.length).all fun j=>match l[j]?,gs[j]? with
 | some oj,some (.far ds _)=>ds.all fun d=>oj.after.any fun e=>Region.binds .any e&&(match l[e.on]? with|some oe=>oe.dst==some d|none=>false)
 | _,_=>true
theorem Za {l:List Oper}{gs:List GS}(h:qae l gs=true){j:Nat}{G:Oper}{ds:List Tmp}{q:List Value→World→Prop}(I:l[j]? =some G)(U:gs[j]? =some (.far ds q)){d:Tmp}(O:d∈ds):
  ∃e∈G.after,Region.binds .any e=true∧ ∃r,l[e.on]? =some r∧r.dst=some d:=by
 have J:j<l.length:=(List.getElem?_eq_some_iff.1 I).1;have D:=List.all_eq_true.1 h j (List.mem_range.2 J);rw[I,U]at D;obtain⟨e,S,o⟩:=Array.any_eq_true'.1 (List.all_eq_true.1 D d O);rw[Bool.and_eq_true]at o;refine⟨e,S,o.1,?_⟩
 cases ho:l[e.on]? with
 | none=>rw[ho]at o;simp at o
 | some r=>rw[ho]at o;exact⟨r,rfl,by simpa using o.2⟩
def qcB (gs:List GS)(s i:Nat)(o:Oper):Bool:=(match gs[i]? with|some (.far _ _)=>false|_=>true)&&i != s&&o.dst.isSome
def qcA (gs:List GS)(i:Nat)(v:Value)(W:World):Prop:=match gs[i]? with|some (.own q)=>q v W|_=>True
def atG (gs:List GS)(i:Nat)(x:Tmp→Value)(v:Value)(W:World):Prop:=match gs[i]? with|some (.far ds q)=>q (ds.map x) W|some (.own q)=>q v W|none=>True
def StepG (P:Program)(l:List Oper)(ds:List Tmp)(a0:Act)(Rb:Bool→World→Prop)(s:Nat)(gs:List GS)(Q:Exit→Act→World→Prop)(i:Nat)(o:Oper):Prop:=
 ∀(A:Act) (x:Tmp→Value) (W:World) (f:Bool),ZU a0 x ds A→Rb f W→(Js l s i=true→f=false)→(∀e∈o.after,Region.binds .any e=true→yg l gs x W e.on)→
  ∀K:Act→World→Prop,(∀v W',Below W.heap.size W W'→qcA gs i v W'→K (A.put o.dst v) W')→Oper.wp P o A W K Q
def qi4 (P:Program)(l:List Oper)(ds:List Tmp)(a0:Act)(Rb:Bool→World→Prop)(s:Nat)(gs:List GS)(Q:Exit→Act→World→Prop)(o:Oper):Prop:=
 ∀(A:Act) (x:Tmp→Value) (W:World),ZU a0 x ds A→Rb false W→(∀e∈o.after,Region.binds .any e=true→yg l gs x W e.on)→
  ∀K:Act→World→Prop,(∀v W',(o.dst=none→v=undef)→Rb true W'→qd7 W W' s 0 gs→atG gs s x v W'→K (A.put o.dst v) W')→Oper.wp P o A W K Q
theorem qbB {l:List Oper}(r:YE l=true){i j:Nat}{o q:Oper}(hi:l[i]? =some o)(G:l[j]? =some q)(D:j≠i)(x:Tmp→Value)(v:Value):qL (Ya x o.dst v) q=qL x q:=by
 unfold qL Ya
 cases hd:o.dst with
 | none=>rfl
 | some d=>
  cases hd':q.dst with
  | none=>rfl
  | some d'=>
   have:d'≠d:=fun e=>D ((QF r hi).2 j q d G hd (by rw[hd',e]))
   simp[upd,this]
theorem qbr {P:Program}{id:Nat}{w:World}{Q:Exit→Act→World→Prop}{a0:Act}{L l tail:List Oper}{n:Nat}(hi:L.take n=l)(ht:L.drop n=tail)(am:Z9 .any l tail=true)(Rb:Bool→World→Prop)(s:Nat)(ds:List Tmp)(gs:List GS)(ay:l.filterMap (·.dst)=ds)(aq:(ds.all fun d=>decide (d<a0.tmps.size))=true)(ap:ds.Nodup)(G:YE l=true)
  (hg:(l.all fun o=>o.guard.isNone)=true) (ai:qae l gs=true) (hs:s<l.length) (hm:P.follows .mixedOrders=true) (hw:Rb false w.drew) (ao: ∀f W W',Rb f W→Below W.heap.size W W'→Rb f W') (au:qfp gs)
  (ag:yy (fun i o=>(qcB gs s i o=true∧StepG P l ds a0 Rb s gs (Qa P l tail Q) i o)∨(i=s∧qi4 P l ds a0 Rb s gs (Qa P l tail Q) o)) 0 l)
  (al: ∀(x:Tmp→Value) (W:World),Rb true W→yy (fun i _=>yg l gs x W i) 0 l→Qa P l tail Q .normal (lay a0 x ds) W):
  (Code.region id L.toArray true).wp P Q a0 w:=by
 have hL:L=l++tail:=by rw[←hi,←ht];exact(List.take_append_drop _ _).symm
 clear hi ht;subst hL;subst ay;have aj:=fun o ho=>List.all_eq_true.1 hg o ho
 have ak:=hs;refine wp_region_any hm ?_;have eL:(l++tail).toArray.size=l.length+tail.length:=by simp
 rw[eL];refine zP tail l am ?_;have H:=qcI (P:=P) (ops:=l) (a0:=a0) (Q:=Qa P l tail Q) (R:=fun D x W=>Rb (D s) W∧ ∀i,D i=true→yg l gs x W i) ap G (fun i o hi D x W Z ae aa hC K hK=>by
   have ho:=aj o (List.mem_of_getElem? hi);rw[Option.isNone_iff_eq_none]at ho;rw[if_pos (by simp[Region.wanted,ho])];have hL:ZU a0 x (l.filterMap (·.dst)) (lay a0 x (l.filterMap (·.dst))):=JV (fun d hd=>of_decide_eq_true (List.all_eq_true.1 aq d hd));have V: ∀(j:Nat) (v:Value) (W':World),j≠i→D j=true→(∀g,gs[j]? =some g→g.stay W W')→yg l gs (Ya x o.dst v) W' j:=fun j v W' r Y S=>by
    have U:=Z.2 j Y;unfold yg at U⊢
    cases hgj:gs[j]? with
    | none=>trivial
    | some g=>
     cases X:l[j]? with
     | none=>cases g<;>trivial
     | some oj=>
      rw[hgj,X]at U
      cases g with
      | own q=>
       show q (qL (Ya x o.dst v) oj) W'
       rw[qbB G hi X r];exact S _ hgj _ U
      | far dl q=>
       show q (dl.map (Ya x o.dst v)) W'
       have e:dl.map (Ya x o.dst v)=dl.map x:=by
        refine List.map_congr_left fun d hd=>?_
        unfold Ya
        cases hdo:o.dst with
        | none=>rfl
        | some d'=>
         have:d≠d':=by
          rintro rfl
          obtain⟨e,he,J,oe,af,ab⟩:=Za ai X hgj hd;have h1:=(QF G hi).2 e.on oe d af hdo ab;have h2:=hC j oj X Y e he J;rw[h1,ae]at h2
          cases h2
         simp[upd,this]
       rw[e];exact S _ hgj _ U
   rcases YD ag i o hi with⟨I,hG⟩|⟨rfl,hS⟩
   ·unfold qcB at I;simp only[Bool.and_eq_true,bne_iff_ne]at I;refine hG _ x W (D s) hL Z.1 (fun ax=>?_) (fun e he J=>Z.2 _ (aa e he J)) K (fun v W' ah O=>hK v W' ⟨?_,fun j hj=>?_⟩)
    ·obtain⟨o',ar,e,he,J,av⟩:=qaM ax
     cases hDs:D s with
     | false=>rfl
     | true=>
      have:=hC s o' ar hDs e he J
      rw[av,ae]at this;cases this
    ·have e:setD D i s=D s:=by
      have:(s==i)=false:=by rw[beq_eq_false_iff_ne];exact Ne.symm I.1.2
      simp[setD,this]
     rw[e];exact ao _ _ _ Z.1 ah
    ·by_cases r:j=i
     ·subst r;unfold yg;unfold qcA at O
      cases hgj:gs[j]? with
      | none=>trivial
      | some g=>
       rw[hgj]at O I;rw[hi]
       cases g with
       | own q=>
        obtain⟨d,hd⟩:=Option.isSome_iff_exists.1 I.2;have:qL (Ya x o.dst v) o=v:=by unfold qL Ya;rw[hd];simp[upd]
        show q (qL (Ya x o.dst v) o) W'
        rw[this];exact O
       | far dl q=>simp at I
     ·have Y:D j=true:=by
       have J:(j==i)=false:=by rw[beq_eq_false_iff_ne];exact r
       simpa [setD,J] using hj
      exact V j v W' r Y fun g ad=>qbz au ad W W' ah
   ·refine hS _ x W hL (ae▸Z.1) (fun e he J=>Z.2 _ (aa e he J)) K (fun v W' hv an S O=>?_);refine hK v W' ⟨?_,fun j hj=>?_⟩
    ·have:setD D i i=true:=by simp[setD]
     rw[this];exact an
    ·by_cases r:j=i
     ·subst r;unfold yg;unfold atG at O
      cases hgj:gs[j]? with
      | none=>trivial
      | some g=>
       rw[hgj]at O;rw[hi]
       cases g with
       | own q=>
        show q (qL (Ya x o.dst v) o) W'
        have:qL (Ya x o.dst v) o=v:=by
         unfold qL Ya
         cases hd:o.dst with
         | none=>exact(hv hd).symm
         | some d=>simp[upd]
        rw[this];exact O
       | far dl q=>
        show q (dl.map (Ya x o.dst v)) W'
        have e:dl.map (Ya x o.dst v)=dl.map x:=by
         refine List.map_congr_left fun d hd=>?_
         unfold Ya
         cases hdo:o.dst with
         | none=>rfl
         | some d'=>
          have:d≠d':=by
           rintro rfl
           obtain⟨e,he,J,oe,af,ab⟩:=Za ai hi hgj hd;have h1:=(QF G hi).2 e.on oe d af hdo ab;have h2:=(QF G hi).1 e he J;omega
          simp[upd,this]
        rw[e];exact O
     ·have Y:D j=true:=by
       have J:(j==i)=false:=by rw[beq_eq_false_iff_ne];exact r
       simpa [setD,J] using hj
      exact V j v W' r Y fun g ad=>qbA S ad (by simpa using r))
  (fun D x W Z hD=>al x W (hD s▸Z.1) (by
   have: ∀(m:List Oper) (n:Nat),yy (fun i _=>yg l gs x W i) n m:=by
    intro m;induction m with
    | nil=>intro n;trivial
    | cons o m ih=>intro n;exact⟨Z.2 n (hD n),ih (n+1)⟩
   exact this l 0))
  l.length (Array.replicate l.length false) (fun d=>a0.tmps.getD d undef) w.drew (by simp) (by
   simp only[Array.toList_replicate,Z7,List.countP_replicate];simp) ⟨by
    have:(Array.replicate l.length false).getD s true=false:=by simp[Lh,ak]
    show Rb ((Array.replicate l.length false).getD s true) w.drew
    rw[this];exact hw,fun i hi=>by
    have az: ¬i<l.length:=fun ac=>by simp[Lh,ac]at hi
    unfold yg;rw[List.getElem?_eq_none (l:=l) (by omega)]
    cases gs[i]? with
    | none=>trivial
    | some g=>cases g<;>trivial⟩ (fun j oj aw X=>by
    have ac:j<l.length:=(List.getElem?_eq_some_iff.1 aw).1;simp[Lh,ac]at X)
 rw[jR]at H;exact H
theorem gw {a0 A:Act}{x:Tmp→Value}{ds:List Tmp}{gs:List GS}{l:List Oper}{W:World}{o:Array Edge}{v:Value}(r:ZU a0 x ds A)
    (q: ∀e∈o,Region.binds .any e=true→yg l gs x W e.on) (i s:Nat)
    (D:s∈ds:=by decide) (I:(⟨i,.data⟩:Edge)∈o:=by simp) (G:yg l gs x W i=(x s=v):=by rfl):A.tmps.getD s undef=v:=by
  have:=q _ I rfl
  rw[G]at this;exact(r.1 s D).trans this
inductive Sp where
 | v (d:Tmp) (u:Value)
 | p (d:Tmp) (q:Value→World→Prop)
 | s (q:World→Prop)
 | f (d:Option Tmp) (ds:List Tmp) (q:List Value→World→Prop)
abbrev Sp.z(d b i:Nat):Sp:=.v d (.pointer (some ⟨b,i,none⟩))
def Sp.dst:Sp→Option Tmp
 | .v d _=>some d
 | .p d _=>some d
 | .s _=>none
 | .f d _ _=>d
def Sp.says:Sp→Value→World→Prop
 | .v _ u=>fun y _=>y=u
 | .p _ q=>q
 | .s q=>fun _ W=>q W
 | .f _ _ _=>fun _ _=>True
def Sp.gs:Sp→GS
 | .v _ u=> .own fun y _=>y=u
 | .p _ q=> .own q
 | .s q=> .far [] fun _ W=>q W
 | .f _ ds q=> .far ds q
def yk:List Sp→Act→World→Nat→Prop
 | .v d u::_,A,_,0=>A.tmps.getD d undef=u
 | .p d q::_,A,W,0=>q (A.tmps.getD d undef) W
 | _::l,A,W,n+1=>yk l A W n
 | _,_,_,_=>True
def Q7 (sp:List Sp)(A:Act)(W:World):List Edge→Prop
 | []=>True
 | ⟨i,.data⟩::l=>yk sp A W i∧Q7 sp A W l
 | _::l=>Q7 sp A W l
def QP (a0:Act)(x:Tmp→Value):List Sp→Act
 | []=>a0
 | .v d u::l=>(QP a0 x l).put (some d) u
 | .p d _::l=>(QP a0 x l).put (some d) (x d)
 | .s _::l=>QP a0 x l
 | .f (some d) _ _::l=>(QP a0 x l).put (some d) (x d)
 | .f none _ _::l=>QP a0 x l
def qbk (x:Tmp→Value)(W:World):List Sp→Prop
 | []=>True
 | .v _ _::l=>qbk x W l
 | .p d q::l=>q (x d) W∧qbk x W l
 | .s q::l=>q W∧qbk x W l
 | .f _ ds q::l=>q (ds.map x) W∧qbk x W l
def qfo:List Sp→Prop
 | []=>True
 | .p _ q::l=>(∀v W W',q v W→Below W.heap.size W W'→q v W')∧qfo l
 | .s q::l=>(∀W W',q W→Below W.heap.size W W'→q W')∧qfo l
 | _::l=>qfo l
def qa9:List Sp→Prop
 | []=>True
 | .p _ q::l=>(∀W W',Below W.heap.size W W'→ ∀v,q v W→q v W')∧qa9 l
 | .s q::l=>(∀W W',Below W.heap.size W W'→q W→q W')∧qa9 l
 | .f _ _ q::l=>(∀W W',Below W.heap.size W W'→ ∀v,q v W→q v W')∧qa9 l
 | _::l=>qa9 l
theorem ja: ∀{sp:List Sp},qfo sp→qg0 (sp.map Sp.says)
 | [],_=>trivial
 | .v _ _::_,h=>⟨fun _ _ _ h _=>h,ja h⟩
 | .p _ _::_,h=>⟨h.1,ja h.2⟩
 | .s _::_,h=>⟨fun _ W W'=>h.1 W W',ja h.2⟩
 | .f _ _ _::_,h=>⟨fun _ _ _ h _=>h,ja h⟩
theorem Zv: ∀{sp:List Sp},qa9 sp→qfp (sp.map Sp.gs)
 | [],_=>trivial
 | .v _ _::_,h=>⟨fun _ _ _ _ h=>h,Zv h⟩
 | .p _ _::_,h=>⟨h.1,Zv h.2⟩
 | .s _::_,h=>⟨fun W W' o _=>h.1 W W' o,Zv h.2⟩
 | .f _ _ _::_,h=>⟨h.1,Zv h.2⟩
theorem qaA {sp:List Sp}{i:Nat}{s:Sp}(h:sp[i]? =some s)(v:Value)(W:World):QY (sp.map Sp.says) i v W=s.says v W:=by
 unfold QY;rw[List.getElem?_map,h];rfl
theorem qaz {sp:List Sp}{r:List Oper}{x:Tmp→Value}{i:Nat}{s:Sp}{o:Oper}(h:sp[i]? =some s)(D:r[i]? =some o)(W:World):
  yg r (sp.map Sp.gs) x W i=match s.gs with| .own q=>q (qL x o) W| .far ds q=>q (ds.map x) W:=by
 unfold yg;rw[List.getElem?_map,h,D]
 cases s<;>rfl
theorem qaB {sp:List Sp}{q:List Oper}(D:q.map (·.dst)=sp.map Sp.dst){i:Nat}{o:Oper}(r:q[i]? =some o): ∃s,sp[i]? =some s∧s.dst=o.dst:=by
 have h:=congrArg (fun l:List (Option Tmp)=>l[i]?) D;simp only[List.getElem?_map,r,Option.map_some]at h
 cases hs:sp[i]? with
 | none=>rw[hs]at h;cases h
 | some s=>rw[hs]at h;exact⟨s,rfl,by simpa using h.symm⟩
theorem jP: ∀{sp:List Sp} {A:Act} {W:World} {i:Nat},(∀d u,sp[i]? =some (.v d u)→A.tmps.getD d undef=u)→(∀d q,sp[i]? =some (.p d q)→q (A.tmps.getD d undef) W)→yk sp A W i
 | [],_,_,0,_,_=>trivial
 | [],_,_,_+1,_,_=>trivial
 | .v _ _::_,_,_,0,h,_=>h _ _ rfl
 | .p _ _::_,_,_,0,_,h=>h _ _ rfl
 | .s _::_,_,_,0,_,_=>trivial
 | .f _ _ _::_,_,_,0,_,_=>trivial
 | .v _ _::l,A,W,i+1,h,k=>jP (sp:=l) (A:=A) (W:=W) (i:=i) (fun d u e=>h d u (by simpa using e)) (fun d q e=>k d q (by simpa using e))
 | .p _ _::l,A,W,i+1,h,k=>jP (sp:=l) (A:=A) (W:=W) (i:=i) (fun d u e=>h d u (by simpa using e)) (fun d q e=>k d q (by simpa using e))
 | .s _::l,A,W,i+1,h,k=>jP (sp:=l) (A:=A) (W:=W) (i:=i) (fun d u e=>h d u (by simpa using e)) (fun d q e=>k d q (by simpa using e))
 | .f _ _ _::l,A,W,i+1,h,k=>jP (sp:=l) (A:=A) (W:=W) (i:=i) (fun d u e=>h d u (by simpa using e)) (fun d q e=>k d q (by simpa using e))
theorem Zk {sp:List Sp}{A:Act}{W:World}: ∀(l:List Edge),(∀e∈l,Region.binds .any e=true→yk sp A W e.on)→Q7 sp A W l
 | [],_=>trivial
 | ⟨_,.data⟩::l,h=>⟨h _ (List.mem_cons_self ..) rfl,Zk l (fun e o=>h e (List.mem_cons_of_mem _ o))⟩
 | ⟨_,.chain⟩::l,h=>Zk l (fun e o=>h e (List.mem_cons_of_mem _ o))
 | ⟨_,.guard⟩::l,h=>Zk l (fun e o=>h e (List.mem_cons_of_mem _ o))
 | ⟨_,.phase⟩::l,h=>Zk l (fun e o=>h e (List.mem_cons_of_mem _ o))
 | ⟨_,.textOnly _⟩::l,h=>Zk l (fun e o=>h e (List.mem_cons_of_mem _ o))
 | ⟨_,.gcOnly _⟩::l,h=>Zk l (fun e o=>h e (List.mem_cons_of_mem _ o))
theorem JS {q:List Oper}{i:Nat}{o:Oper}{d:Tmp}(h:q[i]? =some o)(r:o.dst=some d):d∈q.filterMap (·.dst):=List.mem_filterMap.2 ⟨o,List.mem_of_getElem? h,r⟩
theorem qf9 (a0:Act){x:Tmp→Value}: ∀{sp:List Sp} {r:List Oper},r.map (·.dst)=sp.map Sp.dst→(∀(i:Nat) (d:Tmp) (u:Value),sp[i]? =some (.v d u)→x d=u)→lay a0 x (r.filterMap (·.dst))=QP a0 x sp
 | [],[],_,_=>rfl
 | [],_::_,h,_=>by simp at h
 | _::_,[],h,_=>by simp at h
 | s::sp,o::r,h,hv=>by
  simp only[List.map_cons,List.cons.injEq]at h;have G:=qf9 a0 (x:=x) h.2 (fun i d u e=>hv (i+1) d u (by simpa using e))
  cases s with
  | v d u=>
   have D:o.dst=some d:=h.1;rw[List.filterMap_cons,D];show(lay a0 x (r.filterMap _)).put (some d) (x d)=(QP a0 x sp).put (some d) u
   rw[G,hv 0 d u rfl]
  | p d q=>
   have D:o.dst=some d:=h.1;rw[List.filterMap_cons,D];show(lay a0 x (r.filterMap _)).put (some d) (x d)=(QP a0 x sp).put (some d) (x d)
   rw[G]
  | s q=>
   have D:o.dst=none:=h.1;rw[List.filterMap_cons,D];exact G
  | f d ds q=>
   cases d with
   | none=>
    have D:o.dst=none:=h.1;rw[List.filterMap_cons,D];exact G
   | some d=>
    have D:o.dst=some d:=h.1;rw[List.filterMap_cons,D];show(lay a0 x (r.filterMap _)).put (some d) (x d)=(QP a0 x sp).put (some d) (x d)
    rw[G]
theorem jX {x:Tmp→Value}{W:World}: ∀{sp:List Sp},(∀(i:Nat) (s:Sp),sp[i]? =some s→match s with| .v _ _=>True| .p d q=>q (x d) W| .s q=>q W| .f _ ds q=>q (ds.map x) W)→qbk x W sp
 | [],_=>trivial
 | .v _ _::l,h=>jX (sp:=l) (fun i s e=>h (i+1) s (by simpa using e))
 | .p _ _::l,h=>⟨h 0 _ rfl,jX (sp:=l) (fun i s e=>h (i+1) s (by simpa using e))⟩
 | .s _::l,h=>⟨h 0 _ rfl,jX (sp:=l) (fun i s e=>h (i+1) s (by simpa using e))⟩
 | .f _ _ _::l,h=>⟨h 0 _ rfl,jX (sp:=l) (fun i s e=>h (i+1) s (by simpa using e))⟩
theorem Yx: ∀{q:List Oper} {sp:List Sp},q.map (·.dst)=sp.map Sp.dst→q.filterMap (·.dst)=sp.filterMap Sp.dst
 | [],[],_=>rfl
 | [],_::_,h=>by simp at h
 | _::_,[],h=>by simp at h
 | o::q,s::sp,h=>by
  simp only[List.map_cons,List.cons.injEq]at h;have r:=Yx h.2;rw[List.filterMap_cons,List.filterMap_cons,h.1,r]
theorem depL {sp:List Sp}{r:List Oper}{a0 A:Act}{x:Tmp→Value}{ds:List Tmp}{W:World}{o:Array Edge}(Z:r.filterMap (·.dst)=ds)(hl:r.map (·.dst)=sp.map Sp.dst)(aa: ∀e∈o,e.on<r.length)(Y:ZU a0 x ds A)
  (V: ∀e∈o,Region.binds .any e=true→ ∀D,r[e.on]? =some D→QY (sp.map Sp.says) e.on (qL x D) W):Q7 sp A W o.toList:=by
 subst Z;refine Zk _ fun e O hb=>?_
 have O:e∈o:=Array.mem_toList_iff.1 O;obtain⟨D,G⟩: ∃D,r[e.on]? =some D:=⟨_,List.getElem?_eq_getElem (aa e O)⟩;obtain⟨s,X,S⟩:=qaB hl G;have U:=V e O hb D G;rw[qaA X]at U;refine jP (fun d u I=>?_) (fun d q I=>?_)
 ·rw[X]at I;obtain rfl:=Option.some.inj I;have J:D.dst=some d:=S.symm;rw[Y.1 d (JS G J)];have:qL x D=x d:=by unfold qL;rw[J]
  rw[←this];exact U
 ·rw[X]at I;obtain rfl:=Option.some.inj I;have J:D.dst=some d:=S.symm;rw[Y.1 d (JS G J)];have:qL x D=x d:=by unfold qL;rw[J]
  rw[←this];exact U
theorem endL {sp:List Sp}{r:List Oper}{a0:Act}{x:Tmp→Value}{W:World}(J:r.map (·.dst)=sp.map Sp.dst)(S:(sp.all fun s=>match s with| .f _ _ _=>false|_=>true)=true)
  (h:yy (fun i o=>QY (sp.map Sp.says) i (qL x o) W) 0 r):qbk x W sp∧lay a0 x (r.filterMap (·.dst))=QP a0 x sp:=by
 have O: ∀(i:Nat) (s:Sp),sp[i]? =some s→ ∃o,r[i]? =some o∧o.dst=s.dst∧s.says (qL x o) W:=fun i s hi=>by
  have G:=congrArg (fun l:List (Option Tmp)=>l[i]?) J;simp only[List.getElem?_map,hi,Option.map_some]at G
  cases ho:r[i]? with
  | none=>rw[ho]at G;cases G
  | some o=>
   rw[ho]at G;have D:=YD h i o ho;rw[qaA hi]at D;exact⟨o,rfl,by simpa using G,D⟩
 refine⟨jX fun i s hi=>?_,qf9 a0 J fun i d u hi=>?_⟩
 ·obtain⟨o, -,I,D⟩:=O i s hi
  cases s with
  | v d u=>trivial
  | p d q=>
   have:qL x o=x d:=by unfold qL;rw[I];rfl
   show q (x d) W
   rw[←this];exact D
  | s q=>exact D
  | f d ds q=>exact absurd (List.all_eq_true.1 S _ (List.mem_of_getElem? hi)) (by simp)
 ·obtain⟨o, -,I,D⟩:=O i _ hi;have:qL x o=x d:=by unfold qL;rw[I];rfl
  rw[←this];exact D
def qaF (l:List Oper):Bool:=l.all fun o=>o.after.all fun e=>decide (e.on<l.length)
theorem zy {l:List Oper}(h:qaF l=true){i:Nat}{o:Oper}(hi:l[i]? =some o): ∀e∈o.after,e.on<l.length:=fun e q=>
 of_decide_eq_true (Array.all_eq_true'.1 (List.all_eq_true.1 h o (List.mem_of_getElem? hi)) e q)
def StepC (P:Program)(init:List Oper)(ds:List Tmp)(a0:Act)(B:Nat)(w0:World)(sp:List Sp)(Q:Exit→Act→World→Prop)(i:Nat)(o:Oper):Prop:=
 ∀(A:Act) (x:Tmp→Value) (W:World),ZU a0 x ds A→Below B w0 W→B≤W.heap.size→(∀e∈o.after,Region.binds .any e=true→ ∀oe,init[e.on]? =some oe→QY (sp.map Sp.says) e.on (qL x oe) W)→Q7 sp A W o.after.toList→
  ∀K:Act→World→Prop,(∀v W',Below W.heap.size W W'→QY (sp.map Sp.says) i v W'→K (A.put o.dst v) W')→Oper.wp P o A W K Q
theorem ZC {p q:Nat→Oper→Prop}(l:List Oper): ∀(n:Nat) (m:List Oper),(∀i o,m[i]? =some o→p (n+i) o→q (n+i) o)→yy p n m→yy q n m
 | _,[],_,_=>trivial
 | n,o::m,h,k=>⟨h 0 o rfl k.1,ZC l (n+1) m (fun i D hi r=>by
   rw[show n+1+i=n+(i+1) by omega]at r⊢;exact h (i+1) D (by simpa using hi) r) k.2⟩
theorem qI {P:Program}{id:Nat}{w w0:World}{Q:Exit→Act→World→Prop}{a0:Act}{B:Nat}{l q tail:List Oper}{n:Nat}{ds:List Tmp}(sp:List Sp)(X:qfo sp)(hw:Below B w0 w.drew)(hB:B≤w0.heap.size)
  (J:yy (StepC P q ds a0 B w0 sp (Qa P q tail Q)) 0 q)
  (V: ∀(x:Tmp→Value) (W:World),Below B w0 W→B≤W.heap.size→qbk x W sp→Qa P q tail Q .normal (QP a0 x sp) W)
  (hi:l.take n=q:=by dsimp only[List.take]) (ht:l.drop n=tail:=by dsimp only[List.drop]) (ac:sp.filterMap Sp.dst=ds:=by dsimp only[List.filterMap,Sp.dst]) (O:q.map (·.dst)=sp.map Sp.dst:=by rfl)
  (ab:(ds.all fun d=>decide (d<a0.tmps.size))=true:=by rfl) (ad:ds.Nodup:=by decide) (I:YE q=true:=by kernel_rfl)
  (hg:(q.all fun o=>o.guard.isNone&&o.dst.isSome)=true:=by rfl) (hb:Z9 .any q tail=true:=by kernel_rfl) (aa:qaF q=true:=by kernel_rfl) (hm:P.follows .mixedOrders=true:=by kernel_rfl)
  (Y:(sp.all fun s=>match s with| .f _ _ _=>false|_=>true)=true:=by rfl):
  (Code.region id l.toArray true).wp P Q a0 w:=by
 have r:q.filterMap (·.dst)=ds:=(Yx O).trans ac;refine qba (n:=n) (w0:=w0) (B:=B) ds (sp.map Sp.says) hi ht r ab ad I hg hb hm hw hB (ja X) ?_ ?_
 ·refine ZC q 0 q (fun i o ho h=>?_) J;rw[Nat.zero_add]at h⊢;exact fun A x W hA S G D K hK=>h A x W hA S G D (depL r O (zy aa ho) hA D) K hK
 ·intro x W S G U;obtain⟨h1,Z⟩:=endL (a0:=a0) O Y U;rw[r]at Z;rw[Z];exact V x W S G h1
def qj8 (P:Program)(init:List Oper)(ds:List Tmp)(a0:Act)(R:World→Prop)(sp:List Sp)(Q:Exit→Act→World→Prop)(i:Nat)(o:Oper):Prop:=
 ∀(A:Act) (x:Tmp→Value) (W:World),ZU a0 x ds A→R W→(∀e∈o.after,Region.binds .any e=true→ ∀oe,init[e.on]? =some oe→QY (sp.map Sp.says) e.on (qL x oe) W)→Q7 sp A W o.after.toList→
  ∀K:Act→World→Prop,(∀v W',R W'→(∀j u,j≠i→QY (sp.map Sp.says) j u W→QY (sp.map Sp.says) j u W')→QY (sp.map Sp.says) i v W'→K (A.put o.dst v) W')→Oper.wp P o A W K Q
theorem JF {P:Program}{id:Nat}{w:World}{Q:Exit→Act→World→Prop}{a0:Act}{l r tail:List Oper}{n:Nat}{ds:List Tmp}(R:World→Prop)(sp:List Sp)(hw:R w.drew)
  (U:yy (qj8 P r ds a0 R sp (Qa P r tail Q)) 0 r)
  (Y: ∀(x:Tmp→Value) (W:World),R W→qbk x W sp→Qa P r tail Q .normal (QP a0 x sp) W)
  (hi:l.take n=r:=by dsimp only[List.take]) (ht:l.drop n=tail:=by dsimp only[List.drop]) (ac:sp.filterMap Sp.dst=ds:=by dsimp only[List.filterMap,Sp.dst]) (J:r.map (·.dst)=sp.map Sp.dst:=by rfl)
  (ab:(ds.all fun d=>decide (d<a0.tmps.size))=true:=by rfl) (ad:ds.Nodup:=by decide) (S:YE r=true:=by kernel_rfl)
  (O:(r.all fun o=>o.guard.isNone)=true:=by rfl) (hb:Z9 .any r tail=true:=by kernel_rfl) (aa:qaF r=true:=by kernel_rfl) (hm:P.follows .mixedOrders=true:=by kernel_rfl)
  (Z:(sp.all fun s=>match s with| .f _ _ _=>false|_=>true)=true:=by rfl):
  (Code.region id l.toArray true).wp P Q a0 w:=by
 have D:r.filterMap (·.dst)=ds:=(Yx J).trans ac;refine qcm (n:=n) R ds (sp.map Sp.says) hi ht D ab ad S O hb hm hw ?_ ?_ ?_
 ·have: ∀(m:List Oper) (n:Nat),(∀i o,m[i]? =some o→r[n+i]? =some o)→yy (fun i o=>o.dst=none→ ∀v W,QY (sp.map Sp.says) i v W→QY (sp.map Sp.says) i undef W) n m:=by
   intro m;induction m with
   | nil=>intro n _;trivial
   | cons o m ih=>
    intro n h;refine⟨fun hd v W O=>?_,ih (n+1) (fun i o' hi=>by rw[show n+1+i=n+(i+1) by omega];exact h (i+1) o' (by simpa using hi))⟩;have h0:r[n]? =some o:=h 0 o rfl;obtain⟨s,hs,G⟩:=qaB J h0;rw[qaA hs]at O⊢
    cases s with
    | v d u=>rw[hd]at G;cases G
    | p d q=>rw[hd]at G;cases G
    | s q=>exact O
    | f d ds q=>trivial
  exact this r 0 (fun i o hi=>by rw[Nat.zero_add];exact hi)
 ·refine ZC r 0 r (fun i o ho h=>?_) U;rw[Nat.zero_add]at h⊢;exact fun A x W hA X I K hK=>h A x W hA X I (depL D J (zy aa ho) hA I) K hK
 ·intro x W X V;obtain⟨h1,h2⟩:=endL (a0:=a0) J Z V;rw[D]at h2;rw[h2];exact Y x W X h1
theorem depG {sp:List Sp}{r:List Oper}{a0 A:Act}{x:Tmp→Value}{ds:List Tmp}{W:World}{o:Array Edge}(Z:r.filterMap (·.dst)=ds)(hl:r.map (·.dst)=sp.map Sp.dst)(aa: ∀e∈o,e.on<r.length)(Y:ZU a0 x ds A)
  (V: ∀e∈o,Region.binds .any e=true→yg r (sp.map Sp.gs) x W e.on):Q7 sp A W o.toList:=by
 subst Z;refine Zk _ fun e O hb=>?_
 have O:e∈o:=Array.mem_toList_iff.1 O;obtain⟨G,D⟩: ∃G,r[e.on]? =some G:=⟨_,List.getElem?_eq_getElem (aa e O)⟩;obtain⟨s,X,S⟩:=qaB hl D;have U:=V e O hb;rw[qaz X D]at U;refine jP (fun d u I=>?_) (fun d q I=>?_)
 ·rw[X]at I;obtain rfl:=Option.some.inj I;have J:G.dst=some d:=S.symm;rw[Y.1 d (JS D J)];have:qL x G=x d:=by unfold qL;rw[J]
  rw[←this];exact U
 ·rw[X]at I;obtain rfl:=Option.some.inj I;have J:G.dst=some d:=S.symm;rw[Y.1 d (JS D J)];have:qL x G=x d:=by unfold qL;rw[J]
  rw[←this];exact U
theorem endG {sp:List Sp}{r:List Oper}{a0:Act}{x:Tmp→Value}{W:World}(J:r.map (·.dst)=sp.map Sp.dst)
  (h:yy (fun i _=>yg r (sp.map Sp.gs) x W i) 0 r):qbk x W sp∧lay a0 x (r.filterMap (·.dst))=QP a0 x sp:=by
 have O: ∀(i:Nat) (s:Sp),sp[i]? =some s→ ∃o,o.dst=s.dst∧(match s.gs with| .own q=>q (qL x o) W| .far ds q=>q (ds.map x) W):=fun i s hi=>by
  have G:=congrArg (fun l:List (Option Tmp)=>l[i]?) J;simp only[List.getElem?_map,hi,Option.map_some]at G
  cases ho:r[i]? with
  | none=>rw[ho]at G;cases G
  | some o=>
   rw[ho]at G;have D:=YD h i o ho;rw[qaz hi ho]at D;exact⟨o,by simpa using G,D⟩
 refine⟨jX fun i s hi=>?_,qf9 a0 J fun i d u hi=>?_⟩
 ·obtain⟨o,I,D⟩:=O i s hi
  cases s with
  | v d u=>trivial
  | p d q=>
   have:qL x o=x d:=by unfold qL;rw[I];rfl
   show q (x d) W
   rw[←this];exact D
  | s q=>exact D
  | f d ds q=>exact D
 ·obtain⟨o,I,D⟩:=O i _ hi;have:qL x o=x d:=by unfold qL;rw[I];rfl
  rw[←this];exact D
def Sp.isOwn:Sp→Bool
 | .v _ _=>true
 | .p _ _=>true
 | _=>false
def qf1:List Sp→Nat→Nat→Bool
 | [],_,_=>true
 | x::l,n,s=>(n==s||x.isOwn)&&qf1 l (n+1) s
theorem qdN: ∀{sp:List Sp} {n s:Nat},qf1 sp n s=true→ ∀{j:Nat} {x:Sp},sp[j]? =some x→n+j≠s→x.isOwn=true
 | [],_,_,_,j,x,h,_=>by simp at h
 | y::_,n,s,h,0,x,hx,hne=>by
  simp only[qf1,Bool.and_eq_true,Bool.or_eq_true,beq_iff_eq]at h;simp at hx;subst hx
  exact h.1.resolve_left (by simpa using hne)
 | y::l,n,s,h,j+1,x,hx,hne=>by
  simp only[qf1,Bool.and_eq_true]at h;exact qdN (sp:=l) h.2 (by simpa using hx) (by omega)
def qi5 (P:Program)(l:List Oper)(ds:List Tmp)(a0:Act)(Rb:Bool→World→Prop)(s:Nat)(sp:List Sp)(i:Nat)(Q:Exit→Act→World→Prop)(o:Oper):Prop:=
 ∀(A:Act) (x:Tmp→Value) (W:World) (f:Bool),ZU a0 x ds A→Rb f W→(Js l s i=true→f=false)→(∀e∈o.after,Region.binds .any e=true→yg l (sp.map Sp.gs) x W e.on)→Q7 sp A W o.after.toList→
  ∀K:Act→World→Prop,(∀v W',Below W.heap.size W W'→qcA (sp.map Sp.gs) i v W'→K (A.put o.dst v) W')→Oper.wp P o A W K Q
theorem Yt {P:Program}{id:Nat}{w:World}{Q:Exit→Act→World→Prop}{a0:Act}{L l tail:List Oper}{n:Nat}{ds:List Tmp}{o:Oper}(D:Bool→World→Prop)(s:Nat)(sp:List Sp)(ac:qa9 sp)(hw:D false w.drew)(ah: ∀f W W',D f W→Below W.heap.size W W'→D f W')
  (V:yy (fun i o=>i=s∨qi5 P l ds a0 D s sp i (Qa P l tail Q) o) 0 l)
  (J:qi4 P l ds a0 D s (sp.map Sp.gs) (Qa P l tail Q) o)
  (ab: ∀(x:Tmp→Value) (W:World),D true W→qbk x W sp→Qa P l tail Q .normal (QP a0 x sp) W)
  (hi:L.take n=l:=by dsimp only[List.take]) (ht:L.drop n=tail:=by dsimp only[List.drop]) (ag:Z9 .any l tail=true:=by kernel_rfl) (af:sp.filterMap Sp.dst=ds:=by dsimp only[List.filterMap,Sp.dst]) (S:l.map (·.dst)=sp.map Sp.dst:=by rfl)
  (ae:(ds.all fun d=>decide (d<a0.tmps.size))=true:=by rfl) (aj:ds.Nodup:=by decide) (U:YE l=true:=by kernel_rfl) (hg:(l.all fun o=>o.guard.isNone)=true:=by rfl) (ai:qae l (sp.map Sp.gs)=true:=by kernel_rfl)
  (ho:l[s]? =some o:=by rfl) (aa:qf1 sp 0 s=true:=by rfl) (ad:qaF l=true:=by kernel_rfl) (hm:P.follows .mixedOrders=true:=by kernel_rfl):
  (Code.region id L.toArray true).wp P Q a0 w:=by
 have G:l.filterMap (·.dst)=ds:=(Yx S).trans af;have hs:s<l.length:=(List.getElem?_eq_some_iff.1 ho).1;refine qbr hi ht ag D s ds (sp.map Sp.gs) G ae aj U hg ai hs hm hw ah (Zv ac) ?_ ?_
 ·refine ZC l 0 l (fun i o' I h=>?_) V;rw[Nat.zero_add]at h⊢;by_cases r:i=s
  ·subst r;rw[ho]at I;obtain rfl:=Option.some.inj I;exact .inr ⟨rfl,J⟩
  ·refine .inl ⟨?_,fun A x W f hA hR hf O K hK=>h.resolve_left r A x W f hA hR hf O (depG G S (zy ad I) hA O) K hK⟩;obtain⟨x,hx,X⟩:=qaB S I;have Y:=qdN aa hx (by rw[Nat.zero_add];exact r);unfold qcB;rw[List.getElem?_map,hx]
   cases x with
   | v d u=>simp[Sp.gs,r,←X,Sp.dst]
   | p d q=>simp[Sp.gs,r,←X,Sp.dst]
   | s q=>cases Y
   | f d ds q=>cases Y
 ·intro x W hR Z;obtain⟨h1,h2⟩:=endG (a0:=a0) S Z;rw[G]at h2;rw[h2];exact ab x W hR h1
theorem yl {P:Program}{id:Nat}{w:World}{Q:Exit→Act→World→Prop}{a0:Act}{l:List Oper}{ds:List Tmp}{o:Oper}(q:Bool→World→Prop)(s:Nat)(sp:List Sp)(O:qa9 sp)(hw:q false w.drew)(X: ∀f W W',q f W→Below W.heap.size W W'→q f W')
  (G:yy (fun i o=>i=s∨qi5 P l ds a0 q s sp i Q o) 0 l)
  (r:qi4 P l ds a0 q s (sp.map Sp.gs) Q o)
  (J: ∀(x:Tmp→Value) (W:World),q true W→qbk x W sp→Q .normal (QP a0 x sp) W)
  (V:sp.filterMap Sp.dst=ds:=by dsimp only[List.filterMap,Sp.dst]) (hl:l.map (·.dst)=sp.map Sp.dst:=by rfl)
  (U:(ds.all fun d=>decide (d<a0.tmps.size))=true:=by rfl) (Z:ds.Nodup:=by decide) (D:YE l=true:=by kernel_rfl) (hg:(l.all fun o=>o.guard.isNone)=true:=by rfl) (Y:qae l (sp.map Sp.gs)=true:=by kernel_rfl)
  (ho:l[s]? =some o:=by rfl) (I:qf1 sp 0 s=true:=by rfl) (S:qaF l=true:=by kernel_rfl) (hm:P.follows .mixedOrders=true:=by kernel_rfl):
  (Code.region id l.toArray true).wp P Q a0 w:=
 Yt (n:=l.length) (l:=l) (tail:=[]) q s sp O hw X G r J (by simp) (by simp) rfl V hl U Z D hg Y ho I S hm
end Go.Proofs.YthjoojnlnlmljaaGreat
