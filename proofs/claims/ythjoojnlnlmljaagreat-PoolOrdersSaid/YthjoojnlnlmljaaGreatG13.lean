/- A region that draws its order, by an invariant: of each operation that has come up its slot (and the memory) says what it must. No condition. -/
import Derived.Test.YthjoojnlnlmljaaGreatP00
import Derived.Orders
import Derived.RegionTactic
set_option linter.all false
set_option maxRecDepth 100000
set_option maxHeartbeats 8000000
namespace Go.Proofs.YthjoojnlnlmljaaGreat
open Go
theorem qeA (a:Act)(d:Option Tmp)(u v:Value):(a.put d u).put d v=a.put d v:=by
 cases d with
 | none=>rfl
 | some d=>simp[Act.put]
theorem qeB (a:Act)(d:Tmp):a.put (some d) (a.tmps.getD d undef)=a:=by
 have h:a.tmps.setIfInBounds d (a.tmps.getD d undef)=a.tmps:=by
  apply Array.ext_getElem?
  intro j;rw[Array.getElem?_setIfInBounds];by_cases e:d=j
  ·subst e;by_cases o:d<a.tmps.size
   ·simp[o,Lh]
   ·simp[o]
  ·simp[e]
 cases a
 simp only[Act.put]at h⊢;rw[h]
def lay (a0:Act)(x:Tmp→Value):List Tmp→Act
 | []=>a0
 | d::ds=>(lay a0 x ds).put (some d) (x d)
def upd (x:Tmp→Value)(d:Tmp)(v:Value):Tmp→Value:=fun e=>if e=d then v else x e
theorem Zm (a0:Act): ∀ds,lay a0 (fun d=>a0.tmps.getD d undef) ds=a0
 | []=>rfl
 | d::ds=>by
  show(lay a0 _ ds).put (some d) _=a0
  rw[Zm a0 ds];exact qeB a0 d
theorem qcv (a0:Act){x y:Tmp→Value}: ∀ds,(∀d∈ds,x d=y d)→lay a0 x ds=lay a0 y ds
 | [],_=>rfl
 | d::ds,h=>by
  show(lay a0 x ds).put (some d) _=(lay a0 y ds).put (some d) _
  rw[qcv a0 ds (fun e o=>h e (by simp[o])),h d (by simp)]
theorem qaX (a0:Act)(x:Tmp→Value)(d:Tmp)(v:Value): ∀ds,ds.Nodup→d∈ds→(lay a0 x ds).put (some d) v=lay a0 (upd x d v) ds
 | [],_,h=>by cases h
 | e::ds,hn,h=>by
  show((lay a0 x ds).put (some e) (x e)).put (some d) v=(lay a0 (upd x d v) ds).put (some e) (upd x d v e)
  have q:=List.nodup_cons.1 hn;by_cases o:d=e
  ·subst o;rw[qeA,qcv a0 (x:=upd x d v) (y:=x) ds (fun e o=>by
    have:e≠d:=fun h=>q.1 (h▸o)
    simp[upd,this])]
   simp[upd]
  ·have I:d∈ds:=by
    rcases List.mem_cons.1 h with h|h
    ·exact absurd h o
    ·exact h
   rw[Act.put_comm _ (x e) v (fun c G D=>by simp only[Option.some.injEq]at G D;exact o (D.trans G.symm)),qaX a0 x d v ds q.2 I];have:upd x d v e=x e:=by simp[upd,Ne.symm o]
   rw[this]
def qJ (x:Tmp→Value)(o:Oper):Value:=match o.dst with|some d=>x d|none=>undef
def Zz (l:List Bool):Nat:=l.countP (fun b=> !b)
theorem Ji: ∀(l:List Bool) (i:Nat),l[i]? =some false→Zz (l.set i true)+1=Zz l
 | [],i,h=>by simp at h
 | b::l,0,h=>by simp at h;subst h;simp[Zz]
 | b::l,i+1,h=>by
  have:=Ji l i (by simpa using h)
  simp only[Zz,List.set_cons_succ,List.countP_cons]at this⊢;omega
theorem JT {l:List Bool}(h:Zz l=0): ∀i,l.getD i true=true:=by
 intro i;simp only[Zz,List.countP_eq_zero]at h;rw[Lg]
 cases e:l[i]? with
 | none=>rfl
 | some b=>have:=h b (List.mem_of_getElem? e);simpa using this
def yV (l:List Oper):Bool:=
 (List.range l.length).all fun j=>match l[j]? with
  | some oj=>(oj.after.all fun e=> !Region.binds .any e||decide (e.on<j))&&(List.range l.length).all fun i=>i==j||match l[i]?,oj.dst with
   | some oi,some d=>oi.dst != some d
   | _,_=>true
  | none=>true
theorem QB {l:List Oper}(h:yV l=true){j:Nat}{D:Oper}(V:l[j]? =some D):(∀e∈D.after,Region.binds .any e=true→e.on<j)∧ ∀i G d,l[i]? =some G→D.dst=some d→G.dst=some d→i=j:=by
 have O:j<l.length:=(List.getElem?_eq_some_iff.1 V).1;have q:=List.all_eq_true.1 h j (List.mem_range.2 O);rw[V]at q;simp only[Bool.and_eq_true,Array.all_eq_true_iff_forall_mem,List.all_eq_true,Bool.or_eq_true,Bool.not_eq_true',decide_eq_true_eq,List.mem_range,beq_iff_eq]at q;refine⟨fun e X Y=>?_,fun i G d J Z U=>?_⟩
 ·rcases q.1 e X with o|o
  ·rw[Y]at o;cases o
  ·exact o
 ·have I:i<l.length:=(List.getElem?_eq_some_iff.1 J).1;rcases q.2 i I with o|o
  ·exact o
  ·rw[J,Z]at o;simp[U]at o
section
variable {P:Program} {ops:List Oper} {a0:Act} {Q:Exit→Act→World→Prop} {R:World→Prop} {Good:Nat→Value→World→Prop}
theorem JR (ak:(ops.filterMap (·.dst)).Nodup)(Y:yV ops=true)
  (ac: ∀(i:Nat) (o:Oper),ops[i]? =some o→ ∀(x:Tmp→Value) (W:World),R W→
   (∀e∈o.after,Region.binds .any e=true→ ∀oe,ops[e.on]? =some oe→Good e.on (qJ x oe) W)→
   ∀K:Act→World→Prop,(∀v W',R W'→(∀j u,j≠i→Good j u W→Good j u W')→Good i v W'→K ((lay a0 x (ops.filterMap (·.dst))).put o.dst v) W')→
   if Region.wanted o (yielded ops.toArray (lay a0 x (ops.filterMap (·.dst))).tmps)=true then Oper.wp P o (lay a0 x (ops.filterMap (·.dst))) W K Q else K ((lay a0 x (ops.filterMap (·.dst))).put o.dst undef) W)
  (am: ∀i o v W,ops[i]? =some o→o.dst=none→Good i v W→Good i undef W)
  (ai: ∀(x:Tmp→Value) (W:World),R W→(∀i o,ops[i]? =some o→Good i (qJ x o) W)→Q .normal (lay a0 x (ops.filterMap (·.dst))) W):
  ∀(fuel:Nat) (q:Array Bool) (x:Tmp→Value) (W:World),q.size=ops.length→Zz q.toList≤fuel→R W→(∀i o,ops[i]? =some o→q.getD i true=true→Good i (qJ x o) W)→
   wpAny P .any ops.toArray Q fuel q (lay a0 x (ops.filterMap (·.dst))) W:=by
 have G: ∀(q:Array Bool) (x:Tmp→Value) (W:World),R W→(∀i o,ops[i]? =some o→q.getD i true=true→Good i (qJ x o) W)→(∀i,q.getD i true=true)→Q .normal (lay a0 x (ops.filterMap (·.dst))) W:=
  fun q x W hR V O=>ai x W hR (fun i o hi=>V i o hi (O i))
 intro fuel;induction fuel with
 | zero=>
  intro q x W hs ht hR V;have O: ∀i,q.getD i true=true:=fun i=>by
   have:=JT (l:=q.toList) (by omega) i
   simpa [Lh,Lg] using this
  refine⟨?_,G q x W hR V O⟩;rw[List.eq_nil_iff_forall_not_mem];intro j hj;have:=(mem_ready.1 hj).1
  rw[O j]at this
  cases this
 | succ fuel ih=>
  intro q x W hs ht hR V;refine⟨fun hr=>G q x W hR V ?_,fun i hi=>?_⟩
  ·intro j;induction j using Nat.strongRecOn with
   | _ j ihj=>
    cases hl:q.getD j true with
    | true=>rfl
    | false=>
     have hj:j<q.size:=by
      rw[Lh]at hl
      cases e:q[j]? with
      | none=>rw[e]at hl;cases hl
      | some b=>exact(Ai e).1
     obtain⟨D,ho⟩: ∃D,ops[j]? =some D:=⟨ops[j]'(by omega),by simp[show j<ops.length by omega]⟩;have hm:j∈Region.ready .any ops.toArray q:=mem_ready.2 ⟨hl,D,by simpa using ho,fun e he hb=>by
      have an:=(QB Y ho).1 e he hb;have h2:=ihj e.on an;have ah:e.on<q.size:=by omega
      simp only[Lh,Array.getElem?_eq_getElem ah,Option.getD_some]at h2⊢;exact h2⟩
     rw[hr]at hm;cases hm
  ·obtain⟨ad,o,ho,ag⟩:=mem_ready.1 hi;have I:ops[i]? =some o:=by simpa using ho
   have af:i<q.size:=by
    have:=(List.getElem?_eq_some_iff.1 I).1
    omega
   have aj:q.toList[i]? =some false:=by
    rw[Lh,Array.getElem?_eq_getElem af,Option.getD_some]at ad;rw[Array.getElem?_toList,Array.getElem?_eq_getElem af,ad]
   have X:Zz (q.setIfInBounds i true).toList≤fuel:=by
    have:=Ji q.toList i aj
    rw[Array.toList_setIfInBounds];omega
   have U: ∀j,j≠i→(q.setIfInBounds i true).getD j true=q.getD j true:=fun j hj=>by
    simp only[Lh,Array.getElem?_setIfInBounds];rw[if_neg (Ne.symm hj)]
   refine wpOp_step ho fun K hK=>ac i o I x W hR (fun e he hb oe ao=>V e.on oe ao ?_) K fun v W' ae aa Z=>?_
   ·have:=ag e he hb
    rw[Lh]at this⊢
    cases e':q[e.on]? with
    | none=>rfl
    | some b=>rw[e']at this;exact this
   ·cases hd:o.dst with
    | none=>
     refine hK _ _ ?_;show wpAny P .any ops.toArray Q fuel (q.setIfInBounds i true) (lay a0 x (ops.filterMap (·.dst))) W'
     refine ih _ x W' (by simpa using hs) X ae (fun j D J ab=>?_);by_cases e:j=i
     ·subst e;obtain rfl:o=D:=Option.some.inj (I.symm.trans J);unfold qJ;rw[hd];exact am j o v W' I hd Z
     ·exact aa j _ e (V j D J (by rw[←U j e];exact ab))
    | some d=>
     refine hK _ _ ?_;rw[qaX a0 x d v _ ak (List.mem_filterMap.2 ⟨o,List.mem_of_getElem? I,hd⟩)];refine ih _ (upd x d v) W' (by simpa using hs) X ae (fun j D J ab=>?_);by_cases e:j=i
     ·subst e;obtain rfl:o=D:=Option.some.inj (I.symm.trans J);unfold qJ;rw[hd];simpa [upd] using Z
     ·have al:qJ (upd x d v) D=qJ x D:=by
       unfold qJ
       cases hdj:D.dst with
       | none=>rfl
       | some d'=>
        have:d'≠d:=fun h=>e ((QB Y I).2 j D d J hd (by rw[hdj,h]))
        simp[upd,this]
      rw[al];exact aa j _ e (V j D J (by rw[←U j e];exact ab))
theorem qbP {X:Nat}{w:World}{ds:List Tmp}(V:ops.filterMap (·.dst)=ds)(I:ds.Nodup)(q:yV ops=true)(Z:P.follows .mixedOrders=true)(hR:R w.drew)
  (D: ∀(i:Nat) (o:Oper),ops[i]? =some o→ ∀(x:Tmp→Value) (W:World),R W→
   (∀e∈o.after,Region.binds .any e=true→ ∀O,ops[e.on]? =some O→Good e.on (qJ x O) W)→
   ∀K:Act→World→Prop,(∀v W',R W'→(∀j u,j≠i→Good j u W→Good j u W')→Good i v W'→K ((lay a0 x ds).put o.dst v) W')→
   if Region.wanted o (yielded ops.toArray (lay a0 x ds).tmps)=true then Oper.wp P o (lay a0 x ds) W K Q else K ((lay a0 x ds).put o.dst undef) W)
  (J: ∀i o v W,ops[i]? =some o→o.dst=none→Good i v W→Good i undef W)
  (G: ∀(x:Tmp→Value) (W:World),R W→(∀i o,ops[i]? =some o→Good i (qJ x o) W)→Q .normal (lay a0 x ds) W):
  (Code.region X ops.toArray true).wp P Q a0 w:=by
 subst V;refine wp_region_any Z ?_;have h:=JR (P:=P) (a0:=a0) (Q:=Q) I q D J G ops.toArray.size (Array.replicate ops.toArray.size false) (fun d=>a0.tmps.getD d undef) w.drew (by simp) (by
  simp only[Array.toList_replicate,Zz,List.countP_replicate];simp) hR (fun i o hi Y=>by
  have U:i<ops.length:=(List.getElem?_eq_some_iff.1 hi).1;simp[Lh,U]at Y)
 rw[Zm]at h;exact h
end
def jV (ops:List Oper)(s i:Nat):Bool:=match ops[s]? with
 | some o=>o.after.any fun e=>Region.binds .any e&&e.on==i
 | none=>false
theorem qaj {ops:List Oper}{s i:Nat}(h:jV ops s i=true): ∃o,ops[s]? =some o∧ ∃e∈o.after,Region.binds .any e=true∧e.on=i:=by
 unfold jV at h;split at h
 ·rename_i o D;obtain⟨e,q,h⟩:=Array.any_eq_true'.1 h;simp only[Bool.and_eq_true,beq_iff_eq]at h;exact⟨o,D,e,q,h.1,h.2⟩
 ·cases h
def qiN (ops:List Oper)(listed:Array Bool):Prop:= ∀j oj,ops[j]? =some oj→listed.getD j true=true→ ∀e∈oj.after,Region.binds .any e=true→e.on<ops.length→listed.getD e.on true=true
section
variable {P:Program} {ops:List Oper} {a0:Act} {Q:Exit→Act→World→Prop} {R:Bool→World→Prop} {s:Nat} {Good:Nat→Value→World→Prop}
theorem qeD (au:(ops.filterMap (·.dst)).Nodup)(ab:yV ops=true)
  (ah: ∀(i:Nat) (o:Oper),ops[i]? =some o→ ∀(f:Bool) (x:Tmp→Value) (W:World),R f W→((jV ops s i||i==s)=true→f=false)→
   (∀e∈o.after,Region.binds .any e=true→ ∀oe,ops[e.on]? =some oe→Good e.on (qJ x oe) W)→
   ∀K:Act→World→Prop,(∀v W',R (f||i==s) W'→(∀j u,j≠i→Good j u W→Good j u W')→Good i v W'→K ((lay a0 x (ops.filterMap (·.dst))).put o.dst v) W')→
   if Region.wanted o (yielded ops.toArray (lay a0 x (ops.filterMap (·.dst))).tmps)=true then Oper.wp P o (lay a0 x (ops.filterMap (·.dst))) W K Q else K ((lay a0 x (ops.filterMap (·.dst))).put o.dst undef) W)
  (ax: ∀i o v W,ops[i]? =some o→o.dst=none→Good i v W→Good i undef W)
  (aq: ∀(f:Bool) (x:Tmp→Value) (W:World),R f W→(∀i o,ops[i]? =some o→Good i (qJ x o) W)→Q .normal (lay a0 x (ops.filterMap (·.dst))) W):
  ∀(fuel:Nat) (q:Array Bool) (x:Tmp→Value) (W:World),q.size=ops.length→Zz q.toList≤fuel→R (q.getD s false) W→qiN ops q→(∀i o,ops[i]? =some o→q.getD i true=true→Good i (qJ x o) W)→
   wpAny P .any ops.toArray Q fuel q (lay a0 x (ops.filterMap (·.dst))) W:=by
 have O: ∀(q:Array Bool) (x:Tmp→Value) (W:World),R (q.getD s false) W→(∀i o,ops[i]? =some o→q.getD i true=true→Good i (qJ x o) W)→(∀i,q.getD i true=true)→Q .normal (lay a0 x (ops.filterMap (·.dst))) W:=
  fun q x W hR Z X=>aq _ x W hR (fun i o hi=>Z i o hi (X i))
 intro fuel;induction fuel with
 | zero=>
  intro q x W hs ht hR hD Z;have X: ∀i,q.getD i true=true:=fun i=>by
   have:=JT (l:=q.toList) (by omega) i
   simpa [Lh,Lg] using this
  refine⟨?_,O q x W hR Z X⟩;rw[List.eq_nil_iff_forall_not_mem];intro j hj;have:=(mem_ready.1 hj).1
  rw[X j]at this
  cases this
 | succ fuel ih=>
  intro q x W hs ht hR hD Z;refine⟨fun hr=>O q x W hR Z ?_,fun i hi=>?_⟩
  ·intro j;induction j using Nat.strongRecOn with
   | _ j ihj=>
    cases hl:q.getD j true with
    | true=>rfl
    | false=>
     have hj:j<q.size:=by
      rw[Lh]at hl
      cases e:q[j]? with
      | none=>rw[e]at hl;cases hl
      | some b=>exact(Ai e).1
     obtain⟨D,ho⟩: ∃D,ops[j]? =some D:=⟨ops[j]'(by omega),by simp[show j<ops.length by omega]⟩;have hm:j∈Region.ready .any ops.toArray q:=mem_ready.2 ⟨hl,D,by simpa using ho,fun e Y hb=>by
      have az:=(QB ab ho).1 e Y hb;have h2:=ihj e.on az;have ap:e.on<q.size:=by omega
      simp only[Lh,Array.getElem?_eq_getElem ap,Option.getD_some]at h2⊢;exact h2⟩
     rw[hr]at hm;cases hm
  ·obtain⟨U,o,ho,af⟩:=mem_ready.1 hi;have G:ops[i]? =some o:=by simpa using ho
   have ac:i<q.size:=by
    have:=(List.getElem?_eq_some_iff.1 G).1
    omega
   have ar:q.toList[i]? =some false:=by
    rw[Lh,Array.getElem?_eq_getElem ac,Option.getD_some]at U;rw[Array.getElem?_toList,Array.getElem?_eq_getElem ac,U]
   have aa:Zz (q.setIfInBounds i true).toList≤fuel:=by
    have:=Ji q.toList i ar
    rw[Array.toList_setIfInBounds];omega
   have J: ∀j,j≠i→(q.setIfInBounds i true).getD j true=q.getD j true:=fun j hj=>by
    simp only[Lh,Array.getElem?_setIfInBounds];rw[if_neg (Ne.symm hj)]
   have ag:(jV ops s i||i==s)=true→q.getD s false=false:=fun aB=>by
    rcases(Bool.or_eq_true _ _).mp aB with hw|hw
    case inr=>
     obtain rfl:i=s:=by simpa using hw
     rw[Lh]at U⊢
     cases e':q[i]? with
     | none=>rfl
     | some b=>rw[e']at U;exact U
    cases hf:q.getD s false with
    | false=>rfl
    | true=>
     exfalso
     obtain⟨os,ay,e,Y,aC,ao⟩:=qaj hw;have av:q.getD s true=true:=by
      rw[Lh]at hf⊢
      cases e':q[s]? with
      | none=>rfl
      | some b=>rw[e']at hf;exact hf
     have h9:=hD s os ay av e Y aC (by rw[ao];exact(List.getElem?_eq_some_iff.1 G).1);rw[ao,U]at h9
     cases h9
   have an:(q.setIfInBounds i true).getD s false=(q.getD s false||i==s):=by
    simp only[Lh,Array.getElem?_setIfInBounds];by_cases e:i=s
    ·subst e;simp[ac]
    ·simp[e]
   have aj:qiN ops (q.setIfInBounds i true):=by
    intro j D I V e Y ak aA;by_cases am:e.on=i
    ·rw[am,Lh,Array.getElem?_setIfInBounds];simp[ac]
    ·rw[J _ am];by_cases ai:j=i
     ·subst ai;obtain rfl:o=D:=Option.some.inj (G.symm.trans I);have h6:=af e Y ak;rw[Lh]at h6⊢
      cases e':q[e.on]? with
      | none=>rfl
      | some b=>rw[e']at h6;exact h6
     ·rw[J _ ai]at V;exact hD j D I V e Y ak aA
   refine wpOp_step ho fun K hK=>ah i o G _ x W hR ag (fun e Y hb oe aD=>Z e.on oe aD ?_) K fun v W' al ae ad=>?_
   ·have:=af e Y hb
    rw[Lh]at this⊢
    cases e':q[e.on]? with
    | none=>rfl
    | some b=>rw[e']at this;exact this
   ·cases hd:o.dst with
    | none=>
     refine hK _ _ ?_;show wpAny P .any ops.toArray Q fuel (q.setIfInBounds i true) (lay a0 x (ops.filterMap (·.dst))) W'
     refine ih _ x W' (by simpa using hs) aa (by rw[an];exact al) aj (fun j D I V=>?_);by_cases e:j=i
     ·subst e;obtain rfl:o=D:=Option.some.inj (G.symm.trans I);unfold qJ;rw[hd];exact ax j o v W' G hd ad
     ·exact ae j _ e (Z j D I (by rw[←J j e];exact V))
    | some d=>
     refine hK _ _ ?_;rw[qaX a0 x d v _ au (List.mem_filterMap.2 ⟨o,List.mem_of_getElem? G,hd⟩)];refine ih _ (upd x d v) W' (by simpa using hs) aa (by rw[an];exact al) aj (fun j D I V=>?_);by_cases e:j=i
     ·subst e;obtain rfl:o=D:=Option.some.inj (G.symm.trans I);unfold qJ;rw[hd];simpa [upd] using ad
     ·have aw:qJ (upd x d v) D=qJ x D:=by
       unfold qJ
       cases hdj:D.dst with
       | none=>rfl
       | some d'=>
        have:d'≠d:=fun h=>e ((QB ab G).2 j D d I hd (by rw[hdj,h]))
        simp[upd,this]
      rw[aw];exact ae j _ e (Z j D I (by rw[←J j e];exact V))
theorem ZB {Z:Nat}{w:World}{ds:List Tmp}(Y:ops.filterMap (·.dst)=ds)(J:ds.Nodup)(D:yV ops=true)(hm:P.follows .mixedOrders=true)(hR:R false w.drew)
  (G: ∀(i:Nat) (o:Oper),ops[i]? =some o→ ∀(f:Bool) (x:Tmp→Value) (W:World),R f W→((jV ops s i||i==s)=true→f=false)→
   (∀e∈o.after,Region.binds .any e=true→ ∀U,ops[e.on]? =some U→Good e.on (qJ x U) W)→
   ∀K:Act→World→Prop,(∀v W',R (f||i==s) W'→(∀j u,j≠i→Good j u W→Good j u W')→Good i v W'→K ((lay a0 x ds).put o.dst v) W')→
   if Region.wanted o (yielded ops.toArray (lay a0 x ds).tmps)=true then Oper.wp P o (lay a0 x ds) W K Q else K ((lay a0 x ds).put o.dst undef) W)
  (O: ∀i o v W,ops[i]? =some o→o.dst=none→Good i v W→Good i undef W)
  (I: ∀(f:Bool) (x:Tmp→Value) (W:World),R f W→(∀i o,ops[i]? =some o→Good i (qJ x o) W)→Q .normal (lay a0 x ds) W):
  (Code.region Z ops.toArray true).wp P Q a0 w:=by
 subst Y;refine wp_region_any hm ?_;have h:=qeD (P:=P) (s:=s) (a0:=a0) (Q:=Q) J D G O I ops.toArray.size (Array.replicate ops.toArray.size false) (fun d=>a0.tmps.getD d undef) w.drew (by simp) (by
  simp only[Array.toList_replicate,Zz,List.countP_replicate];simp) (by rw[Lh,Array.getElem?_replicate];split<;>exact hR) (fun j oj V X=>by
   have q:j<ops.length:=(List.getElem?_eq_some_iff.1 V).1;simp[Lh,q]at X) (fun i o hi hl=>by
  have q:i<ops.length:=(List.getElem?_eq_some_iff.1 hi).1;simp[Lh,q]at hl)
 rw[Zm]at h;exact h
end
end Go.Proofs.YthjoojnlnlmljaaGreat
