/- A region that draws its order, by an invariant: of each operation that has come up its slot (and the memory) says what it must. No condition. -/
import Derived.Test.YthjoojnlnlmljaaGreatP00
import Derived.Orders
import Derived.RegionTactic
set_option linter.all false
set_option maxRecDepth 100000
set_option maxHeartbeats 8000000
namespace Go.Proofs.YthjoojnlnlmljaaGreat
open Go
theorem qfq (a:Act)(d:Option Tmp)(u v:Value):(a.put d u).put d v=a.put d v:=by
 cases d with
 | none=>rfl
 | some d=>simp[Act.put]
theorem qfr (a:Act)(d:Tmp):a.put (some d) (a.tmps.getD d undef)=a:=by
 have h:a.tmps.setIfInBounds d (a.tmps.getD d undef)=a.tmps:=by
  apply Array.ext_getElem?
  intro j;rw[Array.getElem?_setIfInBounds];by_cases e:d=j
  ·subst e;by_cases o:d<a.tmps.size
   ·simp[o,Lh]
   ·simp[o]
  ·simp[e]
 cases a
 simp only[Act.put]at h⊢;rw[h]
def lay (a0:Act)(x:Tmp→Value):List Tmp→Act
 | []=>a0
 | d::ds=>(lay a0 x ds).put (some d) (x d)
def upd (x:Tmp→Value)(d:Tmp)(v:Value):Tmp→Value:=fun e=>if e=d then v else x e
theorem jR (a0:Act): ∀ds,lay a0 (fun d=>a0.tmps.getD d undef) ds=a0
 | []=>rfl
 | d::ds=>by
  show(lay a0 _ ds).put (some d) _=a0
  rw[jR a0 ds];exact qfr a0 d
theorem qc6 (a0:Act){x y:Tmp→Value}: ∀ds,(∀d∈ds,x d=y d)→lay a0 x ds=lay a0 y ds
 | [],_=>rfl
 | d::ds,h=>by
  show(lay a0 x ds).put (some d) _=(lay a0 y ds).put (some d) _
  rw[qc6 a0 ds (fun e o=>h e (by simp[o])),h d (by simp)]
theorem qbn (a0:Act)(x:Tmp→Value)(d:Tmp)(v:Value): ∀ds,ds.Nodup→d∈ds→(lay a0 x ds).put (some d) v=lay a0 (upd x d v) ds
 | [],_,h=>by cases h
 | e::ds,hn,h=>by
  show((lay a0 x ds).put (some e) (x e)).put (some d) v=(lay a0 (upd x d v) ds).put (some e) (upd x d v e)
  have r:=List.nodup_cons.1 hn;by_cases o:d=e
  ·subst o;rw[qfq,qc6 a0 (x:=upd x d v) (y:=x) ds (fun e o=>by
    have:e≠d:=fun h=>r.1 (h▸o)
    simp[upd,this])]
   simp[upd]
  ·have G:d∈ds:=by
    rcases List.mem_cons.1 h with h|h
    ·exact absurd h o
    ·exact h
   rw[Act.put_comm _ (x e) v (fun c D q=>by simp only[Option.some.injEq]at D q;exact o (q.trans D.symm)),qbn a0 x d v ds r.2 G];have:upd x d v e=x e:=by simp[upd,Ne.symm o]
   rw[this]
def qL (x:Tmp→Value)(o:Oper):Value:=match o.dst with|some d=>x d|none=>undef
def Z7 (l:List Bool):Nat:=l.countP (fun b=> !b)
theorem JI: ∀(l:List Bool) (i:Nat),l[i]? =some false→Z7 (l.set i true)+1=Z7 l
 | [],i,h=>by simp at h
 | b::l,0,h=>by simp at h;subst h;simp[Z7]
 | b::l,i+1,h=>by
  have:=JI l i (by simpa using h)
  simp only[Z7,List.set_cons_succ,List.countP_cons]at this⊢;omega
theorem qac {l:List Bool}(h:Z7 l=0): ∀i,l.getD i true=true:=by
 intro i;simp only[Z7,List.countP_eq_zero]at h;rw[Lg]
 cases e:l[i]? with
 | none=>rfl
 | some b=>have:=h b (List.mem_of_getElem? e);simpa using this
def YE (l:List Oper):Bool:=
 (List.range l.length).all fun j=>match l[j]? with
  | some oj=>(oj.after.all fun e=> !Region.binds .any e||decide (e.on<j))&&(List.range l.length).all fun i=>i==j||match l[i]?,oj.dst with
   | some oi,some d=>oi.dst != some d
   | _,_=>true
  | none=>true
theorem QF {l:List Oper}(h:YE l=true){j:Nat}{r:Oper}(I:l[j]? =some r):(∀e∈r.after,Region.binds .any e=true→e.on<j)∧ ∀i D d,l[i]? =some D→r.dst=some d→D.dst=some d→i=j:=by
 have O:j<l.length:=(List.getElem?_eq_some_iff.1 I).1;have q:=List.all_eq_true.1 h j (List.mem_range.2 O);rw[I]at q;simp only[Bool.and_eq_true,Array.all_eq_true_iff_forall_mem,List.all_eq_true,Bool.or_eq_true,Bool.not_eq_true',decide_eq_true_eq,List.mem_range,beq_iff_eq]at q;refine⟨fun e U V=>?_,fun i D d hi S J=>?_⟩
 ·rcases q.1 e U with o|o
  ·rw[V]at o;cases o
  ·exact o
 ·have G:i<l.length:=(List.getElem?_eq_some_iff.1 hi).1;rcases q.2 i G with o|o
  ·exact o
  ·rw[hi,S]at o;simp[J]at o
section
variable {P:Program} {ops:List Oper} {a0:Act} {Q:Exit→Act→World→Prop} {R:World→Prop} {Good:Nat→Value→World→Prop}
theorem qcH (an:(ops.filterMap (·.dst)).Nodup)(X:YE ops=true)
  (ab: ∀(i:Nat) (o:Oper),ops[i]? =some o→ ∀(x:Tmp→Value) (W:World),R W→
   (∀e∈o.after,Region.binds .any e=true→ ∀oe,ops[e.on]? =some oe→Good e.on (qL x oe) W)→
   ∀K:Act→World→Prop,(∀v W',R W'→(∀j u,j≠i→Good j u W→Good j u W')→Good i v W'→K ((lay a0 x (ops.filterMap (·.dst))).put o.dst v) W')→
   if Region.wanted o (yielded ops.toArray (lay a0 x (ops.filterMap (·.dst))).tmps)=true then Oper.wp P o (lay a0 x (ops.filterMap (·.dst))) W K Q else K ((lay a0 x (ops.filterMap (·.dst))).put o.dst undef) W)
  (aj: ∀i o v W,ops[i]? =some o→o.dst=none→Good i v W→Good i undef W)
  (ai: ∀(x:Tmp→Value) (W:World),R W→(∀i o,ops[i]? =some o→Good i (qL x o) W)→Q .normal (lay a0 x (ops.filterMap (·.dst))) W):
  ∀(fuel:Nat) (q:Array Bool) (x:Tmp→Value) (W:World),q.size=ops.length→Z7 q.toList≤fuel→R W→(∀i o,ops[i]? =some o→q.getD i true=true→Good i (qL x o) W)→
   wpAny P .any ops.toArray Q fuel q (lay a0 x (ops.filterMap (·.dst))) W:=by
 have D: ∀(q:Array Bool) (x:Tmp→Value) (W:World),R W→(∀i o,ops[i]? =some o→q.getD i true=true→Good i (qL x o) W)→(∀i,q.getD i true=true)→Q .normal (lay a0 x (ops.filterMap (·.dst))) W:=
  fun q x W Z S J=>ai x W Z (fun i o hi=>S i o hi (J i))
 intro fuel;induction fuel with
 | zero=>
  intro q x W hs ht Z S;have J: ∀i,q.getD i true=true:=fun i=>by
   have:=qac (l:=q.toList) (by omega) i
   simpa [Lh,Lg] using this
  refine⟨?_,D q x W Z S J⟩;rw[List.eq_nil_iff_forall_not_mem];intro j hj;have:=(mem_ready.1 hj).1
  rw[J j]at this
  cases this
 | succ fuel ih=>
  intro q x W hs ht Z S;refine⟨fun hr=>D q x W Z S ?_,fun i hi=>?_⟩
  ·intro j;induction j using Nat.strongRecOn with
   | _ j ihj=>
    cases hl:q.getD j true with
    | true=>rfl
    | false=>
     have hj:j<q.size:=by
      rw[Lh]at hl
      cases e:q[j]? with
      | none=>rw[e]at hl;cases hl
      | some b=>exact(Ai e).1
     obtain⟨r,ho⟩: ∃r,ops[j]? =some r:=⟨ops[j]'(by omega),by simp[show j<ops.length by omega]⟩;have hm:j∈Region.ready .any ops.toArray q:=mem_ready.2 ⟨hl,r,by simpa using ho,fun e he hb=>by
      have al:=(QF X ho).1 e he hb;have h2:=ihj e.on al;have af:e.on<q.size:=by omega
      simp only[Lh,Array.getElem?_eq_getElem af,Option.getD_some]at h2⊢;exact h2⟩
     rw[hr]at hm;cases hm
  ·obtain⟨ac,o,ho,ah⟩:=mem_ready.1 hi;have G:ops[i]? =some o:=by simpa using ho
   have ae:i<q.size:=by
    have:=(List.getElem?_eq_some_iff.1 G).1
    omega
   have ag:q.toList[i]? =some false:=by
    rw[Lh,Array.getElem?_eq_getElem ae,Option.getD_some]at ac;rw[Array.getElem?_toList,Array.getElem?_eq_getElem ae,ac]
   have V:Z7 (q.setIfInBounds i true).toList≤fuel:=by
    have:=JI q.toList i ag
    rw[Array.toList_setIfInBounds];omega
   have O: ∀j,j≠i→(q.setIfInBounds i true).getD j true=q.getD j true:=fun j hj=>by
    simp only[Lh,Array.getElem?_setIfInBounds];rw[if_neg (Ne.symm hj)]
   refine wpOp_step ho fun K hK=>ab i o G x W Z (fun e he hb oe am=>S e.on oe am ?_) K fun v W' ad Y U=>?_
   ·have:=ah e he hb
    rw[Lh]at this⊢
    cases e':q[e.on]? with
    | none=>rfl
    | some b=>rw[e']at this;exact this
   ·cases hd:o.dst with
    | none=>
     refine hK _ _ ?_;show wpAny P .any ops.toArray Q fuel (q.setIfInBounds i true) (lay a0 x (ops.filterMap (·.dst))) W'
     refine ih _ x W' (by simpa using hs) V ad (fun j r I aa=>?_);by_cases e:j=i
     ·subst e;obtain rfl:o=r:=Option.some.inj (G.symm.trans I);unfold qL;rw[hd];exact aj j o v W' G hd U
     ·exact Y j _ e (S j r I (by rw[←O j e];exact aa))
    | some d=>
     refine hK _ _ ?_;rw[qbn a0 x d v _ an (List.mem_filterMap.2 ⟨o,List.mem_of_getElem? G,hd⟩)];refine ih _ (upd x d v) W' (by simpa using hs) V ad (fun j r I aa=>?_);by_cases e:j=i
     ·subst e;obtain rfl:o=r:=Option.some.inj (G.symm.trans I);unfold qL;rw[hd];simpa [upd] using U
     ·have ak:qL (upd x d v) r=qL x r:=by
       unfold qL
       cases hdj:r.dst with
       | none=>rfl
       | some d'=>
        have:d'≠d:=fun h=>e ((QF X G).2 j r d I hd (by rw[hdj,h]))
        simp[upd,this]
      rw[ak];exact Y j _ e (S j r I (by rw[←O j e];exact aa))
end
def Js (ops:List Oper)(s i:Nat):Bool:=match ops[s]? with
 | some o=>o.after.any fun e=>Region.binds .any e&&e.on==i
 | none=>false
theorem qaM {ops:List Oper}{s i:Nat}(h:Js ops s i=true): ∃o,ops[s]? =some o∧ ∃e∈o.after,Region.binds .any e=true∧e.on=i:=by
 unfold Js at h;split at h
 ·rename_i o q;obtain⟨e,r,h⟩:=Array.any_eq_true'.1 h;simp only[Bool.and_eq_true,beq_iff_eq]at h;exact⟨o,q,e,r,h.1,h.2⟩
 ·cases h
def qjV (ops:List Oper)(listed:Array Bool):Prop:= ∀j oj,ops[j]? =some oj→listed.getD j true=true→ ∀e∈oj.after,Region.binds .any e=true→e.on<ops.length→listed.getD e.on true=true
section
variable {P:Program} {ops:List Oper} {a0:Act} {Q:Exit→Act→World→Prop} {R:Bool→World→Prop} {s:Nat} {Good:Nat→Value→World→Prop}
theorem qfs (aB:(ops.filterMap (·.dst)).Nodup)(aa:YE ops=true)
  (af: ∀(i:Nat) (o:Oper),ops[i]? =some o→ ∀(f:Bool) (x:Tmp→Value) (W:World),R f W→((Js ops s i||i==s)=true→f=false)→
   (∀e∈o.after,Region.binds .any e=true→ ∀oe,ops[e.on]? =some oe→Good e.on (qL x oe) W)→
   ∀K:Act→World→Prop,(∀v W',R (f||i==s) W'→(∀j u,j≠i→Good j u W→Good j u W')→Good i v W'→K ((lay a0 x (ops.filterMap (·.dst))).put o.dst v) W')→
   if Region.wanted o (yielded ops.toArray (lay a0 x (ops.filterMap (·.dst))).tmps)=true then Oper.wp P o (lay a0 x (ops.filterMap (·.dst))) W K Q else K ((lay a0 x (ops.filterMap (·.dst))).put o.dst undef) W)
  (ar: ∀i o v W,ops[i]? =some o→o.dst=none→Good i v W→Good i undef W)
  (ap: ∀(f:Bool) (x:Tmp→Value) (W:World),R f W→(∀i o,ops[i]? =some o→Good i (qL x o) W)→Q .normal (lay a0 x (ops.filterMap (·.dst))) W):
  ∀(fuel:Nat) (q:Array Bool) (x:Tmp→Value) (W:World),q.size=ops.length→Z7 q.toList≤fuel→R (q.getD s false) W→qjV ops q→(∀i o,ops[i]? =some o→q.getD i true=true→Good i (qL x o) W)→
   wpAny P .any ops.toArray Q fuel q (lay a0 x (ops.filterMap (·.dst))) W:=by
 have J: ∀(q:Array Bool) (x:Tmp→Value) (W:World),R (q.getD s false) W→(∀i o,ops[i]? =some o→q.getD i true=true→Good i (qL x o) W)→(∀i,q.getD i true=true)→Q .normal (lay a0 x (ops.filterMap (·.dst))) W:=
  fun q x W hR X U=>ap _ x W hR (fun i o hi=>X i o hi (U i))
 intro fuel;induction fuel with
 | zero=>
  intro q x W hs ht hR hD X;have U: ∀i,q.getD i true=true:=fun i=>by
   have:=qac (l:=q.toList) (by omega) i
   simpa [Lh,Lg] using this
  refine⟨?_,J q x W hR X U⟩;rw[List.eq_nil_iff_forall_not_mem];intro j hj;have:=(mem_ready.1 hj).1
  rw[U j]at this
  cases this
 | succ fuel ih=>
  intro q x W hs ht hR hD X;refine⟨fun hr=>J q x W hR X ?_,fun i hi=>?_⟩
  ·intro j;induction j using Nat.strongRecOn with
   | _ j ihj=>
    cases hl:q.getD j true with
    | true=>rfl
    | false=>
     have hj:j<q.size:=by
      rw[Lh]at hl
      cases e:q[j]? with
      | none=>rw[e]at hl;cases hl
      | some b=>exact(Ai e).1
     obtain⟨r,ho⟩: ∃r,ops[j]? =some r:=⟨ops[j]'(by omega),by simp[show j<ops.length by omega]⟩;have hm:j∈Region.ready .any ops.toArray q:=mem_ready.2 ⟨hl,r,by simpa using ho,fun e V hb=>by
      have ay:=(QF aa ho).1 e V hb;have h2:=ihj e.on ay;have an:e.on<q.size:=by omega
      simp only[Lh,Array.getElem?_eq_getElem an,Option.getD_some]at h2⊢;exact h2⟩
     rw[hr]at hm;cases hm
  ·obtain⟨O,o,ho,ad⟩:=mem_ready.1 hi;have I:ops[i]? =some o:=by simpa using ho
   have ac:i<q.size:=by
    have:=(List.getElem?_eq_some_iff.1 I).1
    omega
   have ao:q.toList[i]? =some false:=by
    rw[Lh,Array.getElem?_eq_getElem ac,Option.getD_some]at O;rw[Array.getElem?_toList,Array.getElem?_eq_getElem ac,O]
   have Z:Z7 (q.setIfInBounds i true).toList≤fuel:=by
    have:=JI q.toList i ao
    rw[Array.toList_setIfInBounds];omega
   have G: ∀j,j≠i→(q.setIfInBounds i true).getD j true=q.getD j true:=fun j hj=>by
    simp only[Lh,Array.getElem?_setIfInBounds];rw[if_neg (Ne.symm hj)]
   have ae:(Js ops s i||i==s)=true→q.getD s false=false:=fun ax=>by
    rcases(Bool.or_eq_true _ _).mp ax with hw|hw
    case inr=>
     obtain rfl:i=s:=by simpa using hw
     rw[Lh]at O⊢
     cases e':q[i]? with
     | none=>rfl
     | some b=>rw[e']at O;exact O
    cases hf:q.getD s false with
    | false=>rfl
    | true=>
     exfalso
     obtain⟨os,aw,e,V,aq,ai⟩:=qaM hw;have az:q.getD s true=true:=by
      rw[Lh]at hf⊢
      cases e':q[s]? with
      | none=>rfl
      | some b=>rw[e']at hf;exact hf
     have h9:=hD s os aw az e V aq (by rw[ai];exact(List.getElem?_eq_some_iff.1 I).1);rw[ai,O]at h9
     cases h9
   have ak:(q.setIfInBounds i true).getD s false=(q.getD s false||i==s):=by
    simp only[Lh,Array.getElem?_setIfInBounds];by_cases e:i=s
    ·subst e;simp[ac]
    ·simp[e]
   have aj:qjV ops (q.setIfInBounds i true):=by
    intro j r D S e V ah au;by_cases ag:e.on=i
    ·rw[ag,Lh,Array.getElem?_setIfInBounds];simp[ac]
    ·rw[G _ ag];by_cases am:j=i
     ·subst am;obtain rfl:o=r:=Option.some.inj (I.symm.trans D);have h6:=ad e V ah;rw[Lh]at h6⊢
      cases e':q[e.on]? with
      | none=>rfl
      | some b=>rw[e']at h6;exact h6
     ·rw[G _ am]at S;exact hD j r D S e V ah au
   refine wpOp_step ho fun K hK=>af i o I _ x W hR ae (fun e V hb oe aA=>X e.on oe aA ?_) K fun v W' al ab Y=>?_
   ·have:=ad e V hb
    rw[Lh]at this⊢
    cases e':q[e.on]? with
    | none=>rfl
    | some b=>rw[e']at this;exact this
   ·cases hd:o.dst with
    | none=>
     refine hK _ _ ?_;show wpAny P .any ops.toArray Q fuel (q.setIfInBounds i true) (lay a0 x (ops.filterMap (·.dst))) W'
     refine ih _ x W' (by simpa using hs) Z (by rw[ak];exact al) aj (fun j r D S=>?_);by_cases e:j=i
     ·subst e;obtain rfl:o=r:=Option.some.inj (I.symm.trans D);unfold qL;rw[hd];exact ar j o v W' I hd Y
     ·exact ab j _ e (X j r D (by rw[←G j e];exact S))
    | some d=>
     refine hK _ _ ?_;rw[qbn a0 x d v _ aB (List.mem_filterMap.2 ⟨o,List.mem_of_getElem? I,hd⟩)];refine ih _ (upd x d v) W' (by simpa using hs) Z (by rw[ak];exact al) aj (fun j r D S=>?_);by_cases e:j=i
     ·subst e;obtain rfl:o=r:=Option.some.inj (I.symm.trans D);unfold qL;rw[hd];simpa [upd] using Y
     ·have av:qL (upd x d v) r=qL x r:=by
       unfold qL
       cases hdj:r.dst with
       | none=>rfl
       | some d'=>
        have:d'≠d:=fun h=>e ((QF aa I).2 j r d D hd (by rw[hdj,h]))
        simp[upd,this]
      rw[av];exact ab j _ e (X j r D (by rw[←G j e];exact S))
theorem Z3 {Y:Nat}{w:World}{ds:List Tmp}(O:ops.filterMap (·.dst)=ds)(V:ds.Nodup)(r:YE ops=true)(X:P.follows .mixedOrders=true)(hR:R false w.drew)
  (D: ∀(i:Nat) (o:Oper),ops[i]? =some o→ ∀(f:Bool) (x:Tmp→Value) (W:World),R f W→((Js ops s i||i==s)=true→f=false)→
   (∀e∈o.after,Region.binds .any e=true→ ∀U,ops[e.on]? =some U→Good e.on (qL x U) W)→
   ∀K:Act→World→Prop,(∀v W',R (f||i==s) W'→(∀j u,j≠i→Good j u W→Good j u W')→Good i v W'→K ((lay a0 x ds).put o.dst v) W')→
   if Region.wanted o (yielded ops.toArray (lay a0 x ds).tmps)=true then Oper.wp P o (lay a0 x ds) W K Q else K ((lay a0 x ds).put o.dst undef) W)
  (I: ∀i o v W,ops[i]? =some o→o.dst=none→Good i v W→Good i undef W)
  (G: ∀(f:Bool) (x:Tmp→Value) (W:World),R f W→(∀i o,ops[i]? =some o→Good i (qL x o) W)→Q .normal (lay a0 x ds) W):
  (Code.region Y ops.toArray true).wp P Q a0 w:=by
 subst O;refine wp_region_any X ?_;have h:=qfs (P:=P) (s:=s) (a0:=a0) (Q:=Q) V r D I G ops.toArray.size (Array.replicate ops.toArray.size false) (fun d=>a0.tmps.getD d undef) w.drew (by simp) (by
  simp only[Array.toList_replicate,Z7,List.countP_replicate];simp) (by rw[Lh,Array.getElem?_replicate];split<;>exact hR) (fun j oj J S=>by
   have q:j<ops.length:=(List.getElem?_eq_some_iff.1 J).1;simp[Lh,q]at S) (fun i o hi Z=>by
  have q:i<ops.length:=(List.getElem?_eq_some_iff.1 hi).1;simp[Lh,q]at Z)
 rw[jR]at h;exact h
end
end Go.Proofs.YthjoojnlnlmljaaGreat
