/- A region that draws its order, by an invariant: of each operation that has come up its slot (and the memory) says what it must. No condition. -/
import Derived.Test.YthjoojnlnlmljaaGreatP00
import Derived.Orders
import Derived.RegionTactic
set_option linter.all false
set_option maxRecDepth 100000
set_option maxHeartbeats 8000000
namespace Go.Proofs.YthjoojnlnlmljaaGreat
open Go
theorem qd0 (a:Act)(d:Option Tmp)(u v:Value):(a.put d u).put d v=a.put d v:=by
 cases d with
 | none=>rfl
 | some d=>simp[Act.put]
theorem qd1 (a:Act)(d:Tmp):a.put (some d) (a.tmps.getD d undef)=a:=by
 have h:a.tmps.setIfInBounds d (a.tmps.getD d undef)=a.tmps:=by
  apply Array.ext_getElem?
  intro j;rw[Array.getElem?_setIfInBounds];by_cases e:d=j
  ·subst e;by_cases o:d<a.tmps.size
   ·simp[o,Lh]
   ·simp[o]
  ·simp[e]
 cases a
 simp only[Act.put]at h⊢;rw[h]
def lay (a0:Act)(x:Tmp→Value):List Tmp→Act
 | []=>a0
 | d::ds=>(lay a0 x ds).put (some d) (x d)
def upd (x:Tmp→Value)(d:Tmp)(v:Value):Tmp→Value:=fun e=>if e=d then v else x e
theorem z9 (a0:Act): ∀ds,lay a0 (fun d=>a0.tmps.getD d undef) ds=a0
 | []=>rfl
 | d::ds=>by
  show(lay a0 _ ds).put (some d) _=a0
  rw[z9 a0 ds];exact qd1 a0 d
theorem qbY (a0:Act){x y:Tmp→Value}: ∀ds,(∀d∈ds,x d=y d)→lay a0 x ds=lay a0 y ds
 | [],_=>rfl
 | d::ds,h=>by
  show(lay a0 x ds).put (some d) _=(lay a0 y ds).put (some d) _
  rw[qbY a0 ds (fun e o=>h e (by simp[o])),h d (by simp)]
theorem qat (a0:Act)(x:Tmp→Value)(d:Tmp)(v:Value): ∀ds,ds.Nodup→d∈ds→(lay a0 x ds).put (some d) v=lay a0 (upd x d v) ds
 | [],_,h=>by cases h
 | e::ds,hn,h=>by
  show((lay a0 x ds).put (some e) (x e)).put (some d) v=(lay a0 (upd x d v) ds).put (some e) (upd x d v e)
  have q:=List.nodup_cons.1 hn;by_cases o:d=e
  ·subst o;rw[qd0,qbY a0 (x:=upd x d v) (y:=x) ds (fun e o=>by
    have:e≠d:=fun h=>q.1 (h▸o)
    simp[upd,this])]
   simp[upd]
  ·have I:d∈ds:=by
    rcases List.mem_cons.1 h with h|h
    ·exact absurd h o
    ·exact h
   rw[Act.put_comm _ (x e) v (fun c G D=>by simp only[Option.some.injEq]at G D;exact o (D.trans G.symm)),qat a0 x d v ds q.2 I];have:upd x d v e=x e:=by simp[upd,Ne.symm o]
   rw[this]
def qF (x:Tmp→Value)(o:Oper):Value:=match o.dst with|some d=>x d|none=>undef
def Zl (l:List Bool):Nat:=l.countP (fun b=> !b)
theorem jQ: ∀(l:List Bool) (i:Nat),l[i]? =some false→Zl (l.set i true)+1=Zl l
 | [],i,h=>by simp at h
 | b::l,0,h=>by simp at h;subst h;simp[Zl]
 | b::l,i+1,h=>by
  have:=jQ l i (by simpa using h)
  simp only[Zl,List.set_cons_succ,List.countP_cons]at this⊢;omega
theorem Js {l:List Bool}(h:Zl l=0): ∀i,l.getD i true=true:=by
 intro i;simp only[Zl,List.countP_eq_zero]at h;rw[Lg]
 cases e:l[i]? with
 | none=>rfl
 | some b=>have:=h b (List.mem_of_getElem? e);simpa using this
def yM (l:List Oper):Bool:=
 (List.range l.length).all fun j=>match l[j]? with
  | some oj=>(oj.after.all fun e=> !Region.binds .any e||decide (e.on<j))&&(List.range l.length).all fun i=>i==j||match l[i]?,oj.dst with
   | some oi,some d=>oi.dst != some d
   | _,_=>true
  | none=>true
theorem Qu {l:List Oper}(h:yM l=true){j:Nat}{G:Oper}(S:l[j]? =some G):(∀e∈G.after,Region.binds .any e=true→e.on<j)∧ ∀i D d,l[i]? =some D→G.dst=some d→D.dst=some d→i=j:=by
 have I:j<l.length:=(List.getElem?_eq_some_iff.1 S).1;have q:=List.all_eq_true.1 h j (List.mem_range.2 I);rw[S]at q;simp only[Bool.and_eq_true,Array.all_eq_true_iff_forall_mem,List.all_eq_true,Bool.or_eq_true,Bool.not_eq_true',decide_eq_true_eq,List.mem_range,beq_iff_eq]at q;refine⟨fun e V Y=>?_,fun i D d J X O=>?_⟩
 ·rcases q.1 e V with o|o
  ·rw[Y]at o;cases o
  ·exact o
 ·have U:i<l.length:=(List.getElem?_eq_some_iff.1 J).1;rcases q.2 i U with o|o
  ·exact o
  ·rw[J,X]at o;simp[O]at o
section
variable {P:Program} {ops:List Oper} {a0:Act} {Q:Exit→Act→World→Prop} {R:World→Prop} {Good:Nat→Value→World→Prop}
theorem Jq (am:(ops.filterMap (·.dst)).Nodup)(V:yM ops=true)
  (ab: ∀(i:Nat) (o:Oper),ops[i]? =some o→ ∀(x:Tmp→Value) (W:World),R W→
   (∀e∈o.after,Region.binds .any e=true→ ∀oe,ops[e.on]? =some oe→Good e.on (qF x oe) W)→
   ∀K:Act→World→Prop,(∀v W',R W'→(∀j u,j≠i→Good j u W→Good j u W')→Good i v W'→K ((lay a0 x (ops.filterMap (·.dst))).put o.dst v) W')→
   if Region.wanted o (yielded ops.toArray (lay a0 x (ops.filterMap (·.dst))).tmps)=true then Oper.wp P o (lay a0 x (ops.filterMap (·.dst))) W K Q else K ((lay a0 x (ops.filterMap (·.dst))).put o.dst undef) W)
  (an: ∀i o v W,ops[i]? =some o→o.dst=none→Good i v W→Good i undef W)
  (ah: ∀(x:Tmp→Value) (W:World),R W→(∀i o,ops[i]? =some o→Good i (qF x o) W)→Q .normal (lay a0 x (ops.filterMap (·.dst))) W):
  ∀(fuel:Nat) (q:Array Bool) (x:Tmp→Value) (W:World),q.size=ops.length→Zl q.toList≤fuel→R W→(∀i o,ops[i]? =some o→q.getD i true=true→Good i (qF x o) W)→
   wpAny P .any ops.toArray Q fuel q (lay a0 x (ops.filterMap (·.dst))) W:=by
 have G: ∀(q:Array Bool) (x:Tmp→Value) (W:World),R W→(∀i o,ops[i]? =some o→q.getD i true=true→Good i (qF x o) W)→(∀i,q.getD i true=true)→Q .normal (lay a0 x (ops.filterMap (·.dst))) W:=
  fun q x W hR U O=>ah x W hR (fun i o hi=>U i o hi (O i))
 intro fuel;induction fuel with
 | zero=>
  intro q x W hs ht hR U;have O: ∀i,q.getD i true=true:=fun i=>by
   have:=Js (l:=q.toList) (by omega) i
   simpa [Lh,Lg] using this
  refine⟨?_,G q x W hR U O⟩;rw[List.eq_nil_iff_forall_not_mem];intro j hj;have:=(mem_ready.1 hj).1
  rw[O j]at this
  cases this
 | succ fuel ih=>
  intro q x W hs ht hR U;refine⟨fun hr=>G q x W hR U ?_,fun i hi=>?_⟩
  ·intro j;induction j using Nat.strongRecOn with
   | _ j ihj=>
    cases hl:q.getD j true with
    | true=>rfl
    | false=>
     have hj:j<q.size:=by
      rw[Lh]at hl
      cases e:q[j]? with
      | none=>rw[e]at hl;cases hl
      | some b=>exact(Ai e).1
     obtain⟨D,ho⟩: ∃D,ops[j]? =some D:=⟨ops[j]'(by omega),by simp[show j<ops.length by omega]⟩;have hm:j∈Region.ready .any ops.toArray q:=mem_ready.2 ⟨hl,D,by simpa using ho,fun e he hb=>by
      have aj:=(Qu V ho).1 e he hb;have h2:=ihj e.on aj;have af:e.on<q.size:=by omega
      simp only[Lh,Array.getElem?_eq_getElem af,Option.getD_some]at h2⊢;exact h2⟩
     rw[hr]at hm;cases hm
  ·obtain⟨ad,o,ho,ag⟩:=mem_ready.1 hi;have I:ops[i]? =some o:=by simpa using ho
   have ac:i<q.size:=by
    have:=(List.getElem?_eq_some_iff.1 I).1
    omega
   have ai:q.toList[i]? =some false:=by
    rw[Lh,Array.getElem?_eq_getElem ac,Option.getD_some]at ad;rw[Array.getElem?_toList,Array.getElem?_eq_getElem ac,ad]
   have X:Zl (q.setIfInBounds i true).toList≤fuel:=by
    have:=jQ q.toList i ai
    rw[Array.toList_setIfInBounds];omega
   have S: ∀j,j≠i→(q.setIfInBounds i true).getD j true=q.getD j true:=fun j hj=>by
    simp only[Lh,Array.getElem?_setIfInBounds];rw[if_neg (Ne.symm hj)]
   refine wpOp_step ho fun K hK=>ab i o I x W hR (fun e he hb oe ak=>U e.on oe ak ?_) K fun v W' ae Z Y=>?_
   ·have:=ag e he hb
    rw[Lh]at this⊢
    cases e':q[e.on]? with
    | none=>rfl
    | some b=>rw[e']at this;exact this
   ·cases hd:o.dst with
    | none=>
     refine hK _ _ ?_;show wpAny P .any ops.toArray Q fuel (q.setIfInBounds i true) (lay a0 x (ops.filterMap (·.dst))) W'
     refine ih _ x W' (by simpa using hs) X ae (fun j D J aa=>?_);by_cases e:j=i
     ·subst e;obtain rfl:o=D:=Option.some.inj (I.symm.trans J);unfold qF;rw[hd];exact an j o v W' I hd Y
     ·exact Z j _ e (U j D J (by rw[←S j e];exact aa))
    | some d=>
     refine hK _ _ ?_;rw[qat a0 x d v _ am (List.mem_filterMap.2 ⟨o,List.mem_of_getElem? I,hd⟩)];refine ih _ (upd x d v) W' (by simpa using hs) X ae (fun j D J aa=>?_);by_cases e:j=i
     ·subst e;obtain rfl:o=D:=Option.some.inj (I.symm.trans J);unfold qF;rw[hd];simpa [upd] using Y
     ·have al:qF (upd x d v) D=qF x D:=by
       unfold qF
       cases hdj:D.dst with
       | none=>rfl
       | some d'=>
        have:d'≠d:=fun h=>e ((Qu V I).2 j D d J hd (by rw[hdj,h]))
        simp[upd,this]
      rw[al];exact Z j _ e (U j D J (by rw[←S j e];exact aa))
theorem qbl {Y:Nat}{w:World}{ds:List Tmp}(S:ops.filterMap (·.dst)=ds)(O:ds.Nodup)(D:yM ops=true)(Z:P.follows .mixedOrders=true)(V:R w.drew)
  (q: ∀(i:Nat) (o:Oper),ops[i]? =some o→ ∀(x:Tmp→Value) (W:World),R W→
   (∀e∈o.after,Region.binds .any e=true→ ∀J,ops[e.on]? =some J→Good e.on (qF x J) W)→
   ∀K:Act→World→Prop,(∀v W',R W'→(∀j u,j≠i→Good j u W→Good j u W')→Good i v W'→K ((lay a0 x ds).put o.dst v) W')→
   if Region.wanted o (yielded ops.toArray (lay a0 x ds).tmps)=true then Oper.wp P o (lay a0 x ds) W K Q else K ((lay a0 x ds).put o.dst undef) W)
  (U: ∀i o v W,ops[i]? =some o→o.dst=none→Good i v W→Good i undef W)
  (G: ∀(x:Tmp→Value) (W:World),R W→(∀i o,ops[i]? =some o→Good i (qF x o) W)→Q .normal (lay a0 x ds) W):
  (Code.region Y ops.toArray true).wp P Q a0 w:=by
 subst S;refine wp_region_any Z ?_;have h:=Jq (P:=P) (a0:=a0) (Q:=Q) O D q U G ops.toArray.size (Array.replicate ops.toArray.size false) (fun d=>a0.tmps.getD d undef) w.drew (by simp) (by
  simp only[Array.toList_replicate,Zl,List.countP_replicate];simp) V (fun i o hi X=>by
  have I:i<ops.length:=(List.getElem?_eq_some_iff.1 hi).1;simp[Lh,I]at X)
 rw[z9]at h;exact h
end
def jC (ops:List Oper)(s i:Nat):Bool:=match ops[s]? with
 | some o=>o.after.any fun e=>Region.binds .any e&&e.on==i
 | none=>false
theorem JT {ops:List Oper}{s i:Nat}(h:jC ops s i=true): ∃o,ops[s]? =some o∧ ∃e∈o.after,Region.binds .any e=true∧e.on=i:=by
 unfold jC at h;split at h
 ·rename_i o D;obtain⟨e,q,h⟩:=Array.any_eq_true'.1 h;simp only[Bool.and_eq_true,beq_iff_eq]at h;exact⟨o,D,e,q,h.1,h.2⟩
 ·cases h
def qia (ops:List Oper)(listed:Array Bool):Prop:= ∀j oj,ops[j]? =some oj→listed.getD j true=true→ ∀e∈oj.after,Region.binds .any e=true→e.on<ops.length→listed.getD e.on true=true
section
variable {P:Program} {ops:List Oper} {a0:Act} {Q:Exit→Act→World→Prop} {R:Bool→World→Prop} {s:Nat} {Good:Nat→Value→World→Prop}
theorem qd3 (ay:(ops.filterMap (·.dst)).Nodup)(aa:yM ops=true)
  (af: ∀(i:Nat) (o:Oper),ops[i]? =some o→ ∀(f:Bool) (x:Tmp→Value) (W:World),R f W→((jC ops s i||i==s)=true→f=false)→
   (∀e∈o.after,Region.binds .any e=true→ ∀oe,ops[e.on]? =some oe→Good e.on (qF x oe) W)→
   ∀K:Act→World→Prop,(∀v W',R (f||i==s) W'→(∀j u,j≠i→Good j u W→Good j u W')→Good i v W'→K ((lay a0 x (ops.filterMap (·.dst))).put o.dst v) W')→
   if Region.wanted o (yielded ops.toArray (lay a0 x (ops.filterMap (·.dst))).tmps)=true then Oper.wp P o (lay a0 x (ops.filterMap (·.dst))) W K Q else K ((lay a0 x (ops.filterMap (·.dst))).put o.dst undef) W)
  (aC: ∀i o v W,ops[i]? =some o→o.dst=none→Good i v W→Good i undef W)
  (aq: ∀(f:Bool) (x:Tmp→Value) (W:World),R f W→(∀i o,ops[i]? =some o→Good i (qF x o) W)→Q .normal (lay a0 x (ops.filterMap (·.dst))) W):
  ∀(fuel:Nat) (q:Array Bool) (x:Tmp→Value) (W:World),q.size=ops.length→Zl q.toList≤fuel→R (q.getD s false) W→qia ops q→(∀i o,ops[i]? =some o→q.getD i true=true→Good i (qF x o) W)→
   wpAny P .any ops.toArray Q fuel q (lay a0 x (ops.filterMap (·.dst))) W:=by
 have O: ∀(q:Array Bool) (x:Tmp→Value) (W:World),R (q.getD s false) W→(∀i o,ops[i]? =some o→q.getD i true=true→Good i (qF x o) W)→(∀i,q.getD i true=true)→Q .normal (lay a0 x (ops.filterMap (·.dst))) W:=
  fun q x W hR Y V=>aq _ x W hR (fun i o hi=>Y i o hi (V i))
 intro fuel;induction fuel with
 | zero=>
  intro q x W hs ht hR hD Y;have V: ∀i,q.getD i true=true:=fun i=>by
   have:=Js (l:=q.toList) (by omega) i
   simpa [Lh,Lg] using this
  refine⟨?_,O q x W hR Y V⟩;rw[List.eq_nil_iff_forall_not_mem];intro j hj;have:=(mem_ready.1 hj).1
  rw[V j]at this
  cases this
 | succ fuel ih=>
  intro q x W hs ht hR hD Y;refine⟨fun hr=>O q x W hR Y ?_,fun i hi=>?_⟩
  ·intro j;induction j using Nat.strongRecOn with
   | _ j ihj=>
    cases hl:q.getD j true with
    | true=>rfl
    | false=>
     have hj:j<q.size:=by
      rw[Lh]at hl
      cases e:q[j]? with
      | none=>rw[e]at hl;cases hl
      | some b=>exact(Ai e).1
     obtain⟨D,ho⟩: ∃D,ops[j]? =some D:=⟨ops[j]'(by omega),by simp[show j<ops.length by omega]⟩;have hm:j∈Region.ready .any ops.toArray q:=mem_ready.2 ⟨hl,D,by simpa using ho,fun e X hb=>by
      have ar:=(Qu aa ho).1 e X hb;have h2:=ihj e.on ar;have ao:e.on<q.size:=by omega
      simp only[Lh,Array.getElem?_eq_getElem ao,Option.getD_some]at h2⊢;exact h2⟩
     rw[hr]at hm;cases hm
  ·obtain⟨U,o,ho,ae⟩:=mem_ready.1 hi;have J:ops[i]? =some o:=by simpa using ho
   have Z:i<q.size:=by
    have:=(List.getElem?_eq_some_iff.1 J).1
    omega
   have ap:q.toList[i]? =some false:=by
    rw[Lh,Array.getElem?_eq_getElem Z,Option.getD_some]at U;rw[Array.getElem?_toList,Array.getElem?_eq_getElem Z,U]
   have ab:Zl (q.setIfInBounds i true).toList≤fuel:=by
    have:=jQ q.toList i ap
    rw[Array.toList_setIfInBounds];omega
   have I: ∀j,j≠i→(q.setIfInBounds i true).getD j true=q.getD j true:=fun j hj=>by
    simp only[Lh,Array.getElem?_setIfInBounds];rw[if_neg (Ne.symm hj)]
   have ag:(jC ops s i||i==s)=true→q.getD s false=false:=fun aw=>by
    rcases(Bool.or_eq_true _ _).mp aw with hw|hw
    case inr=>
     obtain rfl:i=s:=by simpa using hw
     rw[Lh]at U⊢
     cases e':q[i]? with
     | none=>rfl
     | some b=>rw[e']at U;exact U
    cases hf:q.getD s false with
    | false=>rfl
    | true=>
     exfalso
     obtain⟨os,av,e,X,aB,ai⟩:=JT hw;have aA:q.getD s true=true:=by
      rw[Lh]at hf⊢
      cases e':q[s]? with
      | none=>rfl
      | some b=>rw[e']at hf;exact hf
     have h9:=hD s os av aA e X aB (by rw[ai];exact(List.getElem?_eq_some_iff.1 J).1);rw[ai,U]at h9
     cases h9
   have ak:(q.setIfInBounds i true).getD s false=(q.getD s false||i==s):=by
    simp only[Lh,Array.getElem?_setIfInBounds];by_cases e:i=s
    ·subst e;simp[Z]
    ·simp[e]
   have al:qia ops (q.setIfInBounds i true):=by
    intro j D G S e X am az;by_cases ah:e.on=i
    ·rw[ah,Lh,Array.getElem?_setIfInBounds];simp[Z]
    ·rw[I _ ah];by_cases aj:j=i
     ·subst aj;obtain rfl:o=D:=Option.some.inj (J.symm.trans G);have h6:=ae e X am;rw[Lh]at h6⊢
      cases e':q[e.on]? with
      | none=>rfl
      | some b=>rw[e']at h6;exact h6
     ·rw[I _ aj]at S;exact hD j D G S e X am az
   refine wpOp_step ho fun K hK=>af i o J _ x W hR ag (fun e X hb oe au=>Y e.on oe au ?_) K fun v W' an ad ac=>?_
   ·have:=ae e X hb
    rw[Lh]at this⊢
    cases e':q[e.on]? with
    | none=>rfl
    | some b=>rw[e']at this;exact this
   ·cases hd:o.dst with
    | none=>
     refine hK _ _ ?_;show wpAny P .any ops.toArray Q fuel (q.setIfInBounds i true) (lay a0 x (ops.filterMap (·.dst))) W'
     refine ih _ x W' (by simpa using hs) ab (by rw[ak];exact an) al (fun j D G S=>?_);by_cases e:j=i
     ·subst e;obtain rfl:o=D:=Option.some.inj (J.symm.trans G);unfold qF;rw[hd];exact aC j o v W' J hd ac
     ·exact ad j _ e (Y j D G (by rw[←I j e];exact S))
    | some d=>
     refine hK _ _ ?_;rw[qat a0 x d v _ ay (List.mem_filterMap.2 ⟨o,List.mem_of_getElem? J,hd⟩)];refine ih _ (upd x d v) W' (by simpa using hs) ab (by rw[ak];exact an) al (fun j D G S=>?_);by_cases e:j=i
     ·subst e;obtain rfl:o=D:=Option.some.inj (J.symm.trans G);unfold qF;rw[hd];simpa [upd] using ac
     ·have ax:qF (upd x d v) D=qF x D:=by
       unfold qF
       cases hdj:D.dst with
       | none=>rfl
       | some d'=>
        have:d'≠d:=fun h=>e ((Qu aa J).2 j D d G hd (by rw[hdj,h]))
        simp[upd,this]
      rw[ax];exact ad j _ e (Y j D G (by rw[←I j e];exact S))
theorem Zn {id:Nat}{w:World}{ds:List Tmp}(V:ops.filterMap (·.dst)=ds)(O:ds.Nodup)(G:yM ops=true)(hm:P.follows .mixedOrders=true)(Y:R false w.drew)
  (D: ∀(i:Nat) (o:Oper),ops[i]? =some o→ ∀(f:Bool) (x:Tmp→Value) (W:World),R f W→((jC ops s i||i==s)=true→f=false)→
   (∀e∈o.after,Region.binds .any e=true→ ∀J,ops[e.on]? =some J→Good e.on (qF x J) W)→
   ∀K:Act→World→Prop,(∀v W',R (f||i==s) W'→(∀j u,j≠i→Good j u W→Good j u W')→Good i v W'→K ((lay a0 x ds).put o.dst v) W')→
   if Region.wanted o (yielded ops.toArray (lay a0 x ds).tmps)=true then Oper.wp P o (lay a0 x ds) W K Q else K ((lay a0 x ds).put o.dst undef) W)
  (X: ∀i o v W,ops[i]? =some o→o.dst=none→Good i v W→Good i undef W)
  (I: ∀(f:Bool) (x:Tmp→Value) (W:World),R f W→(∀i o,ops[i]? =some o→Good i (qF x o) W)→Q .normal (lay a0 x ds) W):
  (Code.region id ops.toArray true).wp P Q a0 w:=by
 subst V;refine wp_region_any hm ?_;have h:=qd3 (P:=P) (s:=s) (a0:=a0) (Q:=Q) O G D X I ops.toArray.size (Array.replicate ops.toArray.size false) (fun d=>a0.tmps.getD d undef) w.drew (by simp) (by
  simp only[Array.toList_replicate,Zl,List.countP_replicate];simp) (by rw[Lh,Array.getElem?_replicate];split<;>exact Y) (fun j oj S U=>by
   have q:j<ops.length:=(List.getElem?_eq_some_iff.1 S).1;simp[Lh,q]at U) (fun i o hi Z=>by
  have q:i<ops.length:=(List.getElem?_eq_some_iff.1 hi).1;simp[Lh,q]at Z)
 rw[z9]at h;exact h
end
end Go.Proofs.YthjoojnlnlmljaaGreat
