/- A region that draws its order, by an invariant: of each operation that has come up its slot (and the memory) says what it must. No condition. -/
import Derived.Test.YthjoojnlnlmljaaGreatP00
import Derived.Orders
import Derived.RegionTactic
set_option linter.all false
set_option maxRecDepth 100000
set_option maxHeartbeats 8000000
namespace Go.Proofs.YthjoojnlnlmljaaGreat
open Go
theorem qeB (a:Act)(d:Option Tmp)(u v:Value):(a.put d u).put d v=a.put d v:=by
 cases d with
 | none=>rfl
 | some d=>simp[Act.put]
theorem qeC (a:Act)(d:Tmp):a.put (some d) (a.tmps.getD d undef)=a:=by
 have h:a.tmps.setIfInBounds d (a.tmps.getD d undef)=a.tmps:=by
  apply Array.ext_getElem?
  intro j;rw[Array.getElem?_setIfInBounds];by_cases e:d=j
  ·subst e;by_cases o:d<a.tmps.size
   ·simp[o,Lh]
   ·simp[o]
  ·simp[e]
 cases a
 simp only[Act.put]at h⊢;rw[h]
def lay (a0:Act)(x:Tmp→Value):List Tmp→Act
 | []=>a0
 | d::ds=>(lay a0 x ds).put (some d) (x d)
def upd (x:Tmp→Value)(d:Tmp)(v:Value):Tmp→Value:=fun e=>if e=d then v else x e
theorem jG (a0:Act): ∀ds,lay a0 (fun d=>a0.tmps.getD d undef) ds=a0
 | []=>rfl
 | d::ds=>by
  show(lay a0 _ ds).put (some d) _=a0
  rw[jG a0 ds];exact qeC a0 d
theorem qcD (a0:Act){x y:Tmp→Value}: ∀ds,(∀d∈ds,x d=y d)→lay a0 x ds=lay a0 y ds
 | [],_=>rfl
 | d::ds,h=>by
  show(lay a0 x ds).put (some d) _=(lay a0 y ds).put (some d) _
  rw[qcD a0 ds (fun e o=>h e (by simp[o])),h d (by simp)]
theorem qa1 (a0:Act)(x:Tmp→Value)(d:Tmp)(v:Value): ∀ds,ds.Nodup→d∈ds→(lay a0 x ds).put (some d) v=lay a0 (upd x d v) ds
 | [],_,h=>by cases h
 | e::ds,hn,h=>by
  show((lay a0 x ds).put (some e) (x e)).put (some d) v=(lay a0 (upd x d v) ds).put (some e) (upd x d v e)
  have r:=List.nodup_cons.1 hn;by_cases o:d=e
  ·subst o;rw[qeB,qcD a0 (x:=upd x d v) (y:=x) ds (fun e o=>by
    have:e≠d:=fun h=>r.1 (h▸o)
    simp[upd,this])]
   simp[upd]
  ·have G:d∈ds:=by
    rcases List.mem_cons.1 h with h|h
    ·exact absurd h o
    ·exact h
   rw[Act.put_comm _ (x e) v (fun c D q=>by simp only[Option.some.injEq]at D q;exact o (q.trans D.symm)),qa1 a0 x d v ds r.2 G];have:upd x d v e=x e:=by simp[upd,Ne.symm o]
   rw[this]
def qJ (x:Tmp→Value)(o:Oper):Value:=match o.dst with|some d=>x d|none=>undef
def ZT (l:List Bool):Nat:=l.countP (fun b=> !b)
theorem Jy: ∀(l:List Bool) (i:Nat),l[i]? =some false→ZT (l.set i true)+1=ZT l
 | [],i,h=>by simp at h
 | b::l,0,h=>by simp at h;subst h;simp[ZT]
 | b::l,i+1,h=>by
  have:=Jy l i (by simpa using h)
  simp only[ZT,List.set_cons_succ,List.countP_cons]at this⊢;omega
theorem JZ {l:List Bool}(h:ZT l=0): ∀i,l.getD i true=true:=by
 intro i;simp only[ZT,List.countP_eq_zero]at h;rw[Lg]
 cases e:l[i]? with
 | none=>rfl
 | some b=>have:=h b (List.mem_of_getElem? e);simpa using this
def Yq (l:List Oper):Bool:=
 (List.range l.length).all fun j=>match l[j]? with
  | some oj=>(oj.after.all fun e=> !Region.binds .any e||decide (e.on<j))&&(List.range l.length).all fun i=>i==j||match l[i]?,oj.dst with
   | some oi,some d=>oi.dst != some d
   | _,_=>true
  | none=>true
theorem QE {l:List Oper}(h:Yq l=true){j:Nat}{D:Oper}(U:l[j]? =some D):(∀e∈D.after,Region.binds .any e=true→e.on<j)∧ ∀i r d,l[i]? =some r→D.dst=some d→r.dst=some d→i=j:=by
 have I:j<l.length:=(List.getElem?_eq_some_iff.1 U).1;have q:=List.all_eq_true.1 h j (List.mem_range.2 I);rw[U]at q;simp only[Bool.and_eq_true,Array.all_eq_true_iff_forall_mem,List.all_eq_true,Bool.or_eq_true,Bool.not_eq_true',decide_eq_true_eq,List.mem_range,beq_iff_eq]at q;refine⟨fun e Y V=>?_,fun i r d O X G=>?_⟩
 ·rcases q.1 e Y with o|o
  ·rw[V]at o;cases o
  ·exact o
 ·have J:i<l.length:=(List.getElem?_eq_some_iff.1 O).1;rcases q.2 i J with o|o
  ·exact o
  ·rw[O,X]at o;simp[G]at o
section
variable {P:Program} {ops:List Oper} {a0:Act} {Q:Exit→Act→World→Prop} {R:World→Prop} {Good:Nat→Value→World→Prop}
theorem qcf (ak:(ops.filterMap (·.dst)).Nodup)(Z:Yq ops=true)
  (ab: ∀(i:Nat) (o:Oper),ops[i]? =some o→ ∀(x:Tmp→Value) (W:World),R W→
   (∀e∈o.after,Region.binds .any e=true→ ∀oe,ops[e.on]? =some oe→Good e.on (qJ x oe) W)→
   ∀K:Act→World→Prop,(∀v W',R W'→(∀j u,j≠i→Good j u W→Good j u W')→Good i v W'→K ((lay a0 x (ops.filterMap (·.dst))).put o.dst v) W')→
   if Region.wanted o (yielded ops.toArray (lay a0 x (ops.filterMap (·.dst))).tmps)=true then Oper.wp P o (lay a0 x (ops.filterMap (·.dst))) W K Q else K ((lay a0 x (ops.filterMap (·.dst))).put o.dst undef) W)
  (al: ∀i o v W,ops[i]? =some o→o.dst=none→Good i v W→Good i undef W)
  (ah: ∀(x:Tmp→Value) (W:World),R W→(∀i o,ops[i]? =some o→Good i (qJ x o) W)→Q .normal (lay a0 x (ops.filterMap (·.dst))) W):
  ∀(fuel:Nat) (q:Array Bool) (x:Tmp→Value) (W:World),q.size=ops.length→ZT q.toList≤fuel→R W→(∀i o,ops[i]? =some o→q.getD i true=true→Good i (qJ x o) W)→
   wpAny P .any ops.toArray Q fuel q (lay a0 x (ops.filterMap (·.dst))) W:=by
 have D: ∀(q:Array Bool) (x:Tmp→Value) (W:World),R W→(∀i o,ops[i]? =some o→q.getD i true=true→Good i (qJ x o) W)→(∀i,q.getD i true=true)→Q .normal (lay a0 x (ops.filterMap (·.dst))) W:=
  fun q x W hR U J=>ah x W hR (fun i o hi=>U i o hi (J i))
 intro fuel;induction fuel with
 | zero=>
  intro q x W hs ht hR U;have J: ∀i,q.getD i true=true:=fun i=>by
   have:=JZ (l:=q.toList) (by omega) i
   simpa [Lh,Lg] using this
  refine⟨?_,D q x W hR U J⟩;rw[List.eq_nil_iff_forall_not_mem];intro j hj;have:=(mem_ready.1 hj).1
  rw[J j]at this
  cases this
 | succ fuel ih=>
  intro q x W hs ht hR U;refine⟨fun hr=>D q x W hR U ?_,fun i hi=>?_⟩
  ·intro j;induction j using Nat.strongRecOn with
   | _ j ihj=>
    cases hl:q.getD j true with
    | true=>rfl
    | false=>
     have hj:j<q.size:=by
      rw[Lh]at hl
      cases e:q[j]? with
      | none=>rw[e]at hl;cases hl
      | some b=>exact(Ai e).1
     obtain⟨r,ho⟩: ∃r,ops[j]? =some r:=⟨ops[j]'(by omega),by simp[show j<ops.length by omega]⟩;have hm:j∈Region.ready .any ops.toArray q:=mem_ready.2 ⟨hl,r,by simpa using ho,fun e he hb=>by
      have an:=(QE Z ho).1 e he hb;have h2:=ihj e.on an;have ag:e.on<q.size:=by omega
      simp only[Lh,Array.getElem?_eq_getElem ag,Option.getD_some]at h2⊢;exact h2⟩
     rw[hr]at hm;cases hm
  ·obtain⟨ad,o,ho,af⟩:=mem_ready.1 hi;have G:ops[i]? =some o:=by simpa using ho
   have ae:i<q.size:=by
    have:=(List.getElem?_eq_some_iff.1 G).1
    omega
   have ai:q.toList[i]? =some false:=by
    rw[Lh,Array.getElem?_eq_getElem ae,Option.getD_some]at ad;rw[Array.getElem?_toList,Array.getElem?_eq_getElem ae,ad]
   have Y:ZT (q.setIfInBounds i true).toList≤fuel:=by
    have:=Jy q.toList i ai
    rw[Array.toList_setIfInBounds];omega
   have O: ∀j,j≠i→(q.setIfInBounds i true).getD j true=q.getD j true:=fun j hj=>by
    simp only[Lh,Array.getElem?_setIfInBounds];rw[if_neg (Ne.symm hj)]
   refine wpOp_step ho fun K hK=>ab i o G x W hR (fun e he hb oe aj=>U e.on oe aj ?_) K fun v W' ac X V=>?_
   ·have:=af e he hb
    rw[Lh]at this⊢
    cases e':q[e.on]? with
    | none=>rfl
    | some b=>rw[e']at this;exact this
   ·cases hd:o.dst with
    | none=>
     refine hK _ _ ?_;show wpAny P .any ops.toArray Q fuel (q.setIfInBounds i true) (lay a0 x (ops.filterMap (·.dst))) W'
     refine ih _ x W' (by simpa using hs) Y ac (fun j r I aa=>?_);by_cases e:j=i
     ·subst e;obtain rfl:o=r:=Option.some.inj (G.symm.trans I);unfold qJ;rw[hd];exact al j o v W' G hd V
     ·exact X j _ e (U j r I (by rw[←O j e];exact aa))
    | some d=>
     refine hK _ _ ?_;rw[qa1 a0 x d v _ ak (List.mem_filterMap.2 ⟨o,List.mem_of_getElem? G,hd⟩)];refine ih _ (upd x d v) W' (by simpa using hs) Y ac (fun j r I aa=>?_);by_cases e:j=i
     ·subst e;obtain rfl:o=r:=Option.some.inj (G.symm.trans I);unfold qJ;rw[hd];simpa [upd] using V
     ·have am:qJ (upd x d v) r=qJ x r:=by
       unfold qJ
       cases hdj:r.dst with
       | none=>rfl
       | some d'=>
        have:d'≠d:=fun h=>e ((QE Z G).2 j r d I hd (by rw[hdj,h]))
        simp[upd,this]
      rw[am];exact X j _ e (U j r I (by rw[←O j e];exact aa))
end
def Jh (ops:List Oper)(s i:Nat):Bool:=match ops[s]? with
 | some o=>o.after.any fun e=>Region.binds .any e&&e.on==i
 | none=>false
theorem qar {ops:List Oper}{s i:Nat}(h:Jh ops s i=true): ∃o,ops[s]? =some o∧ ∃e∈o.after,Region.binds .any e=true∧e.on=i:=by
 unfold Jh at h;split at h
 ·rename_i o q;obtain⟨e,r,h⟩:=Array.any_eq_true'.1 h;simp only[Bool.and_eq_true,beq_iff_eq]at h;exact⟨o,q,e,r,h.1,h.2⟩
 ·cases h
def qiQ (ops:List Oper)(listed:Array Bool):Prop:= ∀j oj,ops[j]? =some oj→listed.getD j true=true→ ∀e∈oj.after,Region.binds .any e=true→e.on<ops.length→listed.getD e.on true=true
section
variable {P:Program} {ops:List Oper} {a0:Act} {Q:Exit→Act→World→Prop} {R:Bool→World→Prop} {s:Nat} {Good:Nat→Value→World→Prop}
theorem qeD (az:(ops.filterMap (·.dst)).Nodup)(ac:Yq ops=true)
  (af: ∀(i:Nat) (o:Oper),ops[i]? =some o→ ∀(f:Bool) (x:Tmp→Value) (W:World),R f W→((Jh ops s i||i==s)=true→f=false)→
   (∀e∈o.after,Region.binds .any e=true→ ∀oe,ops[e.on]? =some oe→Good e.on (qJ x oe) W)→
   ∀K:Act→World→Prop,(∀v W',R (f||i==s) W'→(∀j u,j≠i→Good j u W→Good j u W')→Good i v W'→K ((lay a0 x (ops.filterMap (·.dst))).put o.dst v) W')→
   if Region.wanted o (yielded ops.toArray (lay a0 x (ops.filterMap (·.dst))).tmps)=true then Oper.wp P o (lay a0 x (ops.filterMap (·.dst))) W K Q else K ((lay a0 x (ops.filterMap (·.dst))).put o.dst undef) W)
  (au: ∀i o v W,ops[i]? =some o→o.dst=none→Good i v W→Good i undef W)
  (ap: ∀(f:Bool) (x:Tmp→Value) (W:World),R f W→(∀i o,ops[i]? =some o→Good i (qJ x o) W)→Q .normal (lay a0 x (ops.filterMap (·.dst))) W):
  ∀(fuel:Nat) (q:Array Bool) (x:Tmp→Value) (W:World),q.size=ops.length→ZT q.toList≤fuel→R (q.getD s false) W→qiQ ops q→(∀i o,ops[i]? =some o→q.getD i true=true→Good i (qJ x o) W)→
   wpAny P .any ops.toArray Q fuel q (lay a0 x (ops.filterMap (·.dst))) W:=by
 have J: ∀(q:Array Bool) (x:Tmp→Value) (W:World),R (q.getD s false) W→(∀i o,ops[i]? =some o→q.getD i true=true→Good i (qJ x o) W)→(∀i,q.getD i true=true)→Q .normal (lay a0 x (ops.filterMap (·.dst))) W:=
  fun q x W hR Y V=>ap _ x W hR (fun i o hi=>Y i o hi (V i))
 intro fuel;induction fuel with
 | zero=>
  intro q x W hs ht hR hD Y;have V: ∀i,q.getD i true=true:=fun i=>by
   have:=JZ (l:=q.toList) (by omega) i
   simpa [Lh,Lg] using this
  refine⟨?_,J q x W hR Y V⟩;rw[List.eq_nil_iff_forall_not_mem];intro j hj;have:=(mem_ready.1 hj).1
  rw[V j]at this
  cases this
 | succ fuel ih=>
  intro q x W hs ht hR hD Y;refine⟨fun hr=>J q x W hR Y ?_,fun i hi=>?_⟩
  ·intro j;induction j using Nat.strongRecOn with
   | _ j ihj=>
    cases hl:q.getD j true with
    | true=>rfl
    | false=>
     have hj:j<q.size:=by
      rw[Lh]at hl
      cases e:q[j]? with
      | none=>rw[e]at hl;cases hl
      | some b=>exact(Ai e).1
     obtain⟨r,ho⟩: ∃r,ops[j]? =some r:=⟨ops[j]'(by omega),by simp[show j<ops.length by omega]⟩;have hm:j∈Region.ready .any ops.toArray q:=mem_ready.2 ⟨hl,r,by simpa using ho,fun e X hb=>by
      have aC:=(QE ac ho).1 e X hb;have h2:=ihj e.on aC;have ao:e.on<q.size:=by omega
      simp only[Lh,Array.getElem?_eq_getElem ao,Option.getD_some]at h2⊢;exact h2⟩
     rw[hr]at hm;cases hm
  ·obtain⟨U,o,ho,ae⟩:=mem_ready.1 hi;have G:ops[i]? =some o:=by simpa using ho
   have ad:i<q.size:=by
    have:=(List.getElem?_eq_some_iff.1 G).1
    omega
   have aq:q.toList[i]? =some false:=by
    rw[Lh,Array.getElem?_eq_getElem ad,Option.getD_some]at U;rw[Array.getElem?_toList,Array.getElem?_eq_getElem ad,U]
   have ab:ZT (q.setIfInBounds i true).toList≤fuel:=by
    have:=Jy q.toList i aq
    rw[Array.toList_setIfInBounds];omega
   have D: ∀j,j≠i→(q.setIfInBounds i true).getD j true=q.getD j true:=fun j hj=>by
    simp only[Lh,Array.getElem?_setIfInBounds];rw[if_neg (Ne.symm hj)]
   have ag:(Jh ops s i||i==s)=true→q.getD s false=false:=fun aB=>by
    rcases(Bool.or_eq_true _ _).mp aB with hw|hw
    case inr=>
     obtain rfl:i=s:=by simpa using hw
     rw[Lh]at U⊢
     cases e':q[i]? with
     | none=>rfl
     | some b=>rw[e']at U;exact U
    cases hf:q.getD s false with
    | false=>rfl
    | true=>
     exfalso
     obtain⟨os,ax,e,X,ay,ah⟩:=qar hw;have ar:q.getD s true=true:=by
      rw[Lh]at hf⊢
      cases e':q[s]? with
      | none=>rfl
      | some b=>rw[e']at hf;exact hf
     have h9:=hD s os ax ar e X ay (by rw[ah];exact(List.getElem?_eq_some_iff.1 G).1);rw[ah,U]at h9
     cases h9
   have al:(q.setIfInBounds i true).getD s false=(q.getD s false||i==s):=by
    simp only[Lh,Array.getElem?_setIfInBounds];by_cases e:i=s
    ·subst e;simp[ad]
    ·simp[e]
   have ak:qiQ ops (q.setIfInBounds i true):=by
    intro j r I O e X am av;by_cases aj:e.on=i
    ·rw[aj,Lh,Array.getElem?_setIfInBounds];simp[ad]
    ·rw[D _ aj];by_cases an:j=i
     ·subst an;obtain rfl:o=r:=Option.some.inj (G.symm.trans I);have h6:=ae e X am;rw[Lh]at h6⊢
      cases e':q[e.on]? with
      | none=>rfl
      | some b=>rw[e']at h6;exact h6
     ·rw[D _ an]at O;exact hD j r I O e X am av
   refine wpOp_step ho fun K hK=>af i o G _ x W hR ag (fun e X hb oe aw=>Y e.on oe aw ?_) K fun v W' ai aa Z=>?_
   ·have:=ae e X hb
    rw[Lh]at this⊢
    cases e':q[e.on]? with
    | none=>rfl
    | some b=>rw[e']at this;exact this
   ·cases hd:o.dst with
    | none=>
     refine hK _ _ ?_;show wpAny P .any ops.toArray Q fuel (q.setIfInBounds i true) (lay a0 x (ops.filterMap (·.dst))) W'
     refine ih _ x W' (by simpa using hs) ab (by rw[al];exact ai) ak (fun j r I O=>?_);by_cases e:j=i
     ·subst e;obtain rfl:o=r:=Option.some.inj (G.symm.trans I);unfold qJ;rw[hd];exact au j o v W' G hd Z
     ·exact aa j _ e (Y j r I (by rw[←D j e];exact O))
    | some d=>
     refine hK _ _ ?_;rw[qa1 a0 x d v _ az (List.mem_filterMap.2 ⟨o,List.mem_of_getElem? G,hd⟩)];refine ih _ (upd x d v) W' (by simpa using hs) ab (by rw[al];exact ai) ak (fun j r I O=>?_);by_cases e:j=i
     ·subst e;obtain rfl:o=r:=Option.some.inj (G.symm.trans I);unfold qJ;rw[hd];simpa [upd] using Z
     ·have aA:qJ (upd x d v) r=qJ x r:=by
       unfold qJ
       cases hdj:r.dst with
       | none=>rfl
       | some d'=>
        have:d'≠d:=fun h=>e ((QE ac G).2 j r d I hd (by rw[hdj,h]))
        simp[upd,this]
      rw[aA];exact aa j _ e (Y j r I (by rw[←D j e];exact O))
theorem ZP {id:Nat}{w:World}{ds:List Tmp}(J:ops.filterMap (·.dst)=ds)(O:ds.Nodup)(D:Yq ops=true)(Y:P.follows .mixedOrders=true)(hR:R false w.drew)
  (r: ∀(i:Nat) (o:Oper),ops[i]? =some o→ ∀(f:Bool) (x:Tmp→Value) (W:World),R f W→((Jh ops s i||i==s)=true→f=false)→
   (∀e∈o.after,Region.binds .any e=true→ ∀U,ops[e.on]? =some U→Good e.on (qJ x U) W)→
   ∀K:Act→World→Prop,(∀v W',R (f||i==s) W'→(∀j u,j≠i→Good j u W→Good j u W')→Good i v W'→K ((lay a0 x ds).put o.dst v) W')→
   if Region.wanted o (yielded ops.toArray (lay a0 x ds).tmps)=true then Oper.wp P o (lay a0 x ds) W K Q else K ((lay a0 x ds).put o.dst undef) W)
  (V: ∀i o v W,ops[i]? =some o→o.dst=none→Good i v W→Good i undef W)
  (G: ∀(f:Bool) (x:Tmp→Value) (W:World),R f W→(∀i o,ops[i]? =some o→Good i (qJ x o) W)→Q .normal (lay a0 x ds) W):
  (Code.region id ops.toArray true).wp P Q a0 w:=by
 subst J;refine wp_region_any Y ?_;have h:=qeD (P:=P) (s:=s) (a0:=a0) (Q:=Q) O D r V G ops.toArray.size (Array.replicate ops.toArray.size false) (fun d=>a0.tmps.getD d undef) w.drew (by simp) (by
  simp only[Array.toList_replicate,ZT,List.countP_replicate];simp) (by rw[Lh,Array.getElem?_replicate];split<;>exact hR) (fun j oj X I=>by
   have q:j<ops.length:=(List.getElem?_eq_some_iff.1 X).1;simp[Lh,q]at I) (fun i o Z hl=>by
  have q:i<ops.length:=(List.getElem?_eq_some_iff.1 Z).1;simp[Lh,q]at hl)
 rw[jG]at h;exact h
end
end Go.Proofs.YthjoojnlnlmljaaGreat
