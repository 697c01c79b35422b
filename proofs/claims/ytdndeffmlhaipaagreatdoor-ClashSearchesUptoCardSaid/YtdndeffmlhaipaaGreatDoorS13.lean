/- A region that draws its order, by an invariant: of each operation that has come up its slot (and the memory) says what it must. No condition. -/
import Derived.Test.YtdndeffmlhaipaaGreatDoorP00
import Derived.Orders
import Derived.RegionTactic
set_option linter.all false
set_option maxRecDepth 100000
set_option maxHeartbeats 8000000
namespace Go.Proofs.YtdndeffmlhaipaaGreatDoor
open Go
theorem qcy (a:Act)(d:Option Tmp)(u v:Value):(a.put d u).put d v=a.put d v:=by
 cases d with
 | none=>rfl
 | some d=>simp[Act.put]
theorem qcz (a:Act)(d:Tmp):a.put (some d) (a.tmps.getD d undef)=a:=by
 have h:a.tmps.setIfInBounds d (a.tmps.getD d undef)=a.tmps:=by
  apply Array.ext_getElem?
  intro j;rw[Array.getElem?_setIfInBounds];by_cases e:d=j
  ·subst e;by_cases hd:d<a.tmps.size
   ·simp[hd,Lh]
   ·simp[hd]
  ·simp[e]
 cases a
 simp only[Act.put]at h⊢;rw[h]
def lay (a0:Act)(x:Tmp→Value):List Tmp→Act
 | []=>a0
 | d::ds=>(lay a0 x ds).put (some d) (x d)
def upd (x:Tmp→Value)(d:Tmp)(v:Value):Tmp→Value:=fun e=>if e=d then v else x e
theorem jh (a0:Act): ∀ds,lay a0 (fun d=>a0.tmps.getD d undef) ds=a0
 | []=>rfl
 | d::ds=>by
  show(lay a0 _ ds).put (some d) _=a0
  rw[jh a0 ds];exact qcz a0 d
theorem qaR (a0:Act){x y:Tmp→Value}: ∀ds,(∀d∈ds,x d=y d)→lay a0 x ds=lay a0 y ds
 | [],_=>rfl
 | d::ds,h=>by
  show(lay a0 x ds).put (some d) _=(lay a0 y ds).put (some d) _
  rw[qaR a0 ds (fun e he=>h e (by simp[he])),h d (by simp)]
theorem Jt (a0:Act)(x:Tmp→Value)(d:Tmp)(v:Value): ∀ds,ds.Nodup→d∈ds→(lay a0 x ds).put (some d) v=lay a0 (upd x d v) ds
 | [],_,h=>by cases h
 | e::ds,hn,h=>by
  show((lay a0 x ds).put (some e) (x e)).put (some d) v=(lay a0 (upd x d v) ds).put (some e) (upd x d v e)
  have hn':=List.nodup_cons.1 hn;by_cases he:d=e
  ·subst he;rw[qcy,qaR a0 (x:=upd x d v) (y:=x) ds (fun e he=>by
    have:e≠d:=fun h=>hn'.1 (h▸he)
    simp[upd,this])]
   simp[upd]
  ·have hd:d∈ds:=by
    rcases List.mem_cons.1 h with h|h
    ·exact absurd h he
    ·exact h
   rw[Act.put_comm _ (x e) v (fun c hc hd'=>by simp only[Option.some.injEq]at hc hd';exact he (hd'.trans hc.symm)),Jt a0 x d v ds hn'.2 hd];have:upd x d v e=x e:=by simp[upd,Ne.symm he]
   rw[this]
def qH (x:Tmp→Value)(o:Oper):Value:=match o.dst with|some d=>x d|none=>undef
def ZB (l:List Bool):Nat:=l.countP (fun b=> !b)
theorem Z6: ∀(l:List Bool) (i:Nat),l[i]? =some false→ZB (l.set i true)+1=ZB l
 | [],i,h=>by simp at h
 | b::l,0,h=>by simp at h;subst h;simp[ZB]
 | b::l,i+1,h=>by
  have:=Z6 l i (by simpa using h)
  simp only[ZB,List.set_cons_succ,List.countP_cons]at this⊢;omega
theorem jw {l:List Bool}(h:ZB l=0): ∀i,l.getD i true=true:=by
 intro i;simp only[ZB,List.countP_eq_zero]at h;rw[Lg]
 cases e:l[i]? with
 | none=>rfl
 | some b=>have:=h b (List.mem_of_getElem? e);simpa using this
def Yb (l:List Oper):Bool:=
 (List.range l.length).all fun j=>match l[j]? with
  | some oj=>(oj.after.all fun e=> !Region.binds .any e||decide (e.on<j))&&(List.range l.length).all fun i=>i==j||match l[i]?,oj.dst with
   | some oi,some d=>oi.dst != some d
   | _,_=>true
  | none=>true
theorem QW {l:List Oper}(h:Yb l=true){j:Nat}{oj:Oper}(hj:l[j]? =some oj):(∀e∈oj.after,Region.binds .any e=true→e.on<j)∧ ∀i oi d,l[i]? =some oi→oj.dst=some d→oi.dst=some d→i=j:=by
 have hlt:j<l.length:=(List.getElem?_eq_some_iff.1 hj).1;have h1:=List.all_eq_true.1 h j (List.mem_range.2 hlt);rw[hj]at h1;simp only[Bool.and_eq_true,Array.all_eq_true_iff_forall_mem,List.all_eq_true,Bool.or_eq_true,Bool.not_eq_true',decide_eq_true_eq,List.mem_range,beq_iff_eq]at h1;refine⟨fun e he hb=>?_,fun i oi d hi hd hd'=>?_⟩
 ·rcases h1.1 e he with h2|h2
  ·rw[hb]at h2;cases h2
  ·exact h2
 ·have hil:i<l.length:=(List.getElem?_eq_some_iff.1 hi).1;rcases h1.2 i hil with h2|h2
  ·exact h2
  ·rw[hi,hd]at h2;simp[hd']at h2
section
variable {P:Program} {ops:List Oper} {a0:Act} {Q:Exit→Act→World→Prop} {R:World→Prop} {Good:Nat→Value→World→Prop}
theorem qaB (hnd:(ops.filterMap (·.dst)).Nodup)(hback:Yb ops=true)
  (hstep: ∀(i:Nat) (o:Oper),ops[i]? =some o→ ∀(x:Tmp→Value) (W:World),R W→
   (∀e∈o.after,Region.binds .any e=true→ ∀oe,ops[e.on]? =some oe→Good e.on (qH x oe) W)→
   ∀K:Act→World→Prop,(∀v W',R W'→(∀j u,j≠i→Good j u W→Good j u W')→Good i v W'→K ((lay a0 x (ops.filterMap (·.dst))).put o.dst v) W')→
   if Region.wanted o (yielded ops.toArray (lay a0 x (ops.filterMap (·.dst))).tmps)=true then Oper.wp P o (lay a0 x (ops.filterMap (·.dst))) W K Q else K ((lay a0 x (ops.filterMap (·.dst))).put o.dst undef) W)
  (hgn: ∀i o v W,ops[i]? =some o→o.dst=none→Good i v W→Good i undef W)
  (hend: ∀(x:Tmp→Value) (W:World),R W→(∀i o,ops[i]? =some o→Good i (qH x o) W)→Q .normal (lay a0 x (ops.filterMap (·.dst))) W):
  ∀(fuel:Nat) (listed:Array Bool) (x:Tmp→Value) (W:World),listed.size=ops.length→ZB listed.toList≤fuel→R W→(∀i o,ops[i]? =some o→listed.getD i true=true→Good i (qH x o) W)→
   wpAny P .any ops.toArray Q fuel listed (lay a0 x (ops.filterMap (·.dst))) W:=by
 have none_left: ∀(listed:Array Bool) (x:Tmp→Value) (W:World),R W→(∀i o,ops[i]? =some o→listed.getD i true=true→Good i (qH x o) W)→(∀i,listed.getD i true=true)→Q .normal (lay a0 x (ops.filterMap (·.dst))) W:=
  fun listed x W hR hG hall=>hend x W hR (fun i o hi=>hG i o hi (hall i))
 intro fuel;induction fuel with
 | zero=>
  intro listed x W hs ht hR hG;have hall: ∀i,listed.getD i true=true:=fun i=>by
   have:=jw (l:=listed.toList) (by omega) i
   simpa [Lh,Lg] using this
  refine⟨?_,none_left listed x W hR hG hall⟩;rw[List.eq_nil_iff_forall_not_mem];intro j hj;have:=(mem_ready.1 hj).1
  rw[hall j]at this
  cases this
 | succ fuel ih=>
  intro listed x W hs ht hR hG;refine⟨fun hr=>none_left listed x W hR hG ?_,fun i hi=>?_⟩
  ·intro j;induction j using Nat.strongRecOn with
   | _ j ihj=>
    cases hl:listed.getD j true with
    | true=>rfl
    | false=>
     have hj:j<listed.size:=by
      rw[Lh]at hl
      cases e:listed[j]? with
      | none=>rw[e]at hl;cases hl
      | some b=>exact(Ai e).1
     obtain⟨oj,ho⟩: ∃oj,ops[j]? =some oj:=⟨ops[j]'(by omega),by simp[show j<ops.length by omega]⟩;have hm:j∈Region.ready .any ops.toArray listed:=mem_ready.2 ⟨hl,oj,by simpa using ho,fun e he hb=>by
      have hlt:=(QW hback ho).1 e he hb;have h2:=ihj e.on hlt;have hlt':e.on<listed.size:=by omega
      simp only[Lh,Array.getElem?_eq_getElem hlt',Option.getD_some]at h2⊢;exact h2⟩
     rw[hr]at hm;cases hm
  ·obtain⟨hun,o,ho,hdep⟩:=mem_ready.1 hi;have ho':ops[i]? =some o:=by simpa using ho
   have hi':i<listed.size:=by
    have:=(List.getElem?_eq_some_iff.1 ho').1
    omega
   have hun':listed.toList[i]? =some false:=by
    rw[Lh,Array.getElem?_eq_getElem hi',Option.getD_some]at hun;rw[Array.getElem?_toList,Array.getElem?_eq_getElem hi',hun]
   have htodo:ZB (listed.setIfInBounds i true).toList≤fuel:=by
    have:=Z6 listed.toList i hun'
    rw[Array.toList_setIfInBounds];omega
   have hother: ∀j,j≠i→(listed.setIfInBounds i true).getD j true=listed.getD j true:=fun j hj=>by
    simp only[Lh,Array.getElem?_setIfInBounds];rw[if_neg (Ne.symm hj)]
   refine wpOp_step ho fun K hK=>hstep i o ho' x W hR (fun e he hb oe hoe=>hG e.on oe hoe ?_) K fun v W' hR' hmono hgood=>?_
   ·have:=hdep e he hb
    rw[Lh]at this⊢
    cases e':listed[e.on]? with
    | none=>rfl
    | some b=>rw[e']at this;exact this
   ·cases hd:o.dst with
    | none=>
     refine hK _ _ ?_;show wpAny P .any ops.toArray Q fuel (listed.setIfInBounds i true) (lay a0 x (ops.filterMap (·.dst))) W'
     refine ih _ x W' (by simpa using hs) htodo hR' (fun j oj hoj hlj=>?_);by_cases e:j=i
     ·subst e;obtain rfl:o=oj:=Option.some.inj (ho'.symm.trans hoj);unfold qH;rw[hd];exact hgn j o v W' ho' hd hgood
     ·exact hmono j _ e (hG j oj hoj (by rw[←hother j e];exact hlj))
    | some d=>
     refine hK _ _ ?_;rw[Jt a0 x d v _ hnd (List.mem_filterMap.2 ⟨o,List.mem_of_getElem? ho',hd⟩)];refine ih _ (upd x d v) W' (by simpa using hs) htodo hR' (fun j oj hoj hlj=>?_);by_cases e:j=i
     ·subst e;obtain rfl:o=oj:=Option.some.inj (ho'.symm.trans hoj);unfold qH;rw[hd];simpa [upd] using hgood
     ·have hsv:qH (upd x d v) oj=qH x oj:=by
       unfold qH
       cases hdj:oj.dst with
       | none=>rfl
       | some d'=>
        have:d'≠d:=fun h=>e ((QW hback ho').2 j oj d hoj hd (by rw[hdj,h]))
        simp[upd,this]
      rw[hsv];exact hmono j _ e (hG j oj hoj (by rw[←hother j e];exact hlj))
end
def ZS (ops:List Oper)(s i:Nat):Bool:=match ops[s]? with
 | some o=>o.after.any fun e=>Region.binds .any e&&e.on==i
 | none=>false
theorem jX {ops:List Oper}{s i:Nat}(h:ZS ops s i=true): ∃o,ops[s]? =some o∧ ∃e∈o.after,Region.binds .any e=true∧e.on=i:=by
 unfold ZS at h;split at h
 ·rename_i o ho;obtain⟨e,he,h⟩:=Array.any_eq_true'.1 h;simp only[Bool.and_eq_true,beq_iff_eq]at h;exact⟨o,ho,e,he,h.1,h.2⟩
 ·cases h
def qgi (ops:List Oper)(listed:Array Bool):Prop:= ∀j oj,ops[j]? =some oj→listed.getD j true=true→ ∀e∈oj.after,Region.binds .any e=true→e.on<ops.length→listed.getD e.on true=true
section
variable {P:Program} {ops:List Oper} {a0:Act} {Q:Exit→Act→World→Prop} {R:Bool→World→Prop} {s:Nat} {Good:Nat→Value→World→Prop}
theorem qcA (hnd:(ops.filterMap (·.dst)).Nodup)(hback:Yb ops=true)
  (hstep: ∀(i:Nat) (o:Oper),ops[i]? =some o→ ∀(f:Bool) (x:Tmp→Value) (W:World),R f W→((ZS ops s i||i==s)=true→f=false)→
   (∀e∈o.after,Region.binds .any e=true→ ∀oe,ops[e.on]? =some oe→Good e.on (qH x oe) W)→
   ∀K:Act→World→Prop,(∀v W',R (f||i==s) W'→(∀j u,j≠i→Good j u W→Good j u W')→Good i v W'→K ((lay a0 x (ops.filterMap (·.dst))).put o.dst v) W')→
   if Region.wanted o (yielded ops.toArray (lay a0 x (ops.filterMap (·.dst))).tmps)=true then Oper.wp P o (lay a0 x (ops.filterMap (·.dst))) W K Q else K ((lay a0 x (ops.filterMap (·.dst))).put o.dst undef) W)
  (hgn: ∀i o v W,ops[i]? =some o→o.dst=none→Good i v W→Good i undef W)
  (hend: ∀(f:Bool) (x:Tmp→Value) (W:World),R f W→(∀i o,ops[i]? =some o→Good i (qH x o) W)→Q .normal (lay a0 x (ops.filterMap (·.dst))) W):
  ∀(fuel:Nat) (listed:Array Bool) (x:Tmp→Value) (W:World),listed.size=ops.length→ZB listed.toList≤fuel→R (listed.getD s false) W→qgi ops listed→(∀i o,ops[i]? =some o→listed.getD i true=true→Good i (qH x o) W)→
   wpAny P .any ops.toArray Q fuel listed (lay a0 x (ops.filterMap (·.dst))) W:=by
 have none_left: ∀(listed:Array Bool) (x:Tmp→Value) (W:World),R (listed.getD s false) W→(∀i o,ops[i]? =some o→listed.getD i true=true→Good i (qH x o) W)→(∀i,listed.getD i true=true)→Q .normal (lay a0 x (ops.filterMap (·.dst))) W:=
  fun listed x W hR hG hall=>hend _ x W hR (fun i o hi=>hG i o hi (hall i))
 intro fuel;induction fuel with
 | zero=>
  intro listed x W hs ht hR hD hG;have hall: ∀i,listed.getD i true=true:=fun i=>by
   have:=jw (l:=listed.toList) (by omega) i
   simpa [Lh,Lg] using this
  refine⟨?_,none_left listed x W hR hG hall⟩;rw[List.eq_nil_iff_forall_not_mem];intro j hj;have:=(mem_ready.1 hj).1
  rw[hall j]at this
  cases this
 | succ fuel ih=>
  intro listed x W hs ht hR hD hG;refine⟨fun hr=>none_left listed x W hR hG ?_,fun i hi=>?_⟩
  ·intro j;induction j using Nat.strongRecOn with
   | _ j ihj=>
    cases hl:listed.getD j true with
    | true=>rfl
    | false=>
     have hj:j<listed.size:=by
      rw[Lh]at hl
      cases e:listed[j]? with
      | none=>rw[e]at hl;cases hl
      | some b=>exact(Ai e).1
     obtain⟨oj,ho⟩: ∃oj,ops[j]? =some oj:=⟨ops[j]'(by omega),by simp[show j<ops.length by omega]⟩;have hm:j∈Region.ready .any ops.toArray listed:=mem_ready.2 ⟨hl,oj,by simpa using ho,fun e he hb=>by
      have hlt:=(QW hback ho).1 e he hb;have h2:=ihj e.on hlt;have hlt':e.on<listed.size:=by omega
      simp only[Lh,Array.getElem?_eq_getElem hlt',Option.getD_some]at h2⊢;exact h2⟩
     rw[hr]at hm;cases hm
  ·obtain⟨hun,o,ho,hdep⟩:=mem_ready.1 hi;have ho':ops[i]? =some o:=by simpa using ho
   have hi':i<listed.size:=by
    have:=(List.getElem?_eq_some_iff.1 ho').1
    omega
   have hun':listed.toList[i]? =some false:=by
    rw[Lh,Array.getElem?_eq_getElem hi',Option.getD_some]at hun;rw[Array.getElem?_toList,Array.getElem?_eq_getElem hi',hun]
   have htodo:ZB (listed.setIfInBounds i true).toList≤fuel:=by
    have:=Z6 listed.toList i hun'
    rw[Array.toList_setIfInBounds];omega
   have hother: ∀j,j≠i→(listed.setIfInBounds i true).getD j true=listed.getD j true:=fun j hj=>by
    simp only[Lh,Array.getElem?_setIfInBounds];rw[if_neg (Ne.symm hj)]
   have hwait:(ZS ops s i||i==s)=true→listed.getD s false=false:=fun hw0=>by
    rcases(Bool.or_eq_true _ _).mp hw0 with hw|hw
    case inr=>
     obtain rfl:i=s:=by simpa using hw
     rw[Lh]at hun⊢
     cases e':listed[i]? with
     | none=>rfl
     | some b=>rw[e']at hun;exact hun
    cases hf:listed.getD s false with
    | false=>rfl
    | true=>
     exfalso
     obtain⟨os,hos,e,he,hbe,hon⟩:=jX hw;have hss:listed.getD s true=true:=by
      rw[Lh]at hf⊢
      cases e':listed[s]? with
      | none=>rfl
      | some b=>rw[e']at hf;exact hf
     have h9:=hD s os hos hss e he hbe (by rw[hon];exact(List.getElem?_eq_some_iff.1 ho').1);rw[hon,hun]at h9
     cases h9
   have hfl:(listed.setIfInBounds i true).getD s false=(listed.getD s false||i==s):=by
    simp only[Lh,Array.getElem?_setIfInBounds];by_cases e:i=s
    ·subst e;simp[hi']
    ·simp[e]
   have hD':qgi ops (listed.setIfInBounds i true):=by
    intro j oj hoj hlj e he hbd hes;by_cases hje:e.on=i
    ·rw[hje,Lh,Array.getElem?_setIfInBounds];simp[hi']
    ·rw[hother _ hje];by_cases hji:j=i
     ·subst hji;obtain rfl:o=oj:=Option.some.inj (ho'.symm.trans hoj);have h6:=hdep e he hbd;rw[Lh]at h6⊢
      cases e':listed[e.on]? with
      | none=>rfl
      | some b=>rw[e']at h6;exact h6
     ·rw[hother _ hji]at hlj;exact hD j oj hoj hlj e he hbd hes
   refine wpOp_step ho fun K hK=>hstep i o ho' _ x W hR hwait (fun e he hb oe hoe=>hG e.on oe hoe ?_) K fun v W' hR' hmono hgood=>?_
   ·have:=hdep e he hb
    rw[Lh]at this⊢
    cases e':listed[e.on]? with
    | none=>rfl
    | some b=>rw[e']at this;exact this
   ·cases hd:o.dst with
    | none=>
     refine hK _ _ ?_;show wpAny P .any ops.toArray Q fuel (listed.setIfInBounds i true) (lay a0 x (ops.filterMap (·.dst))) W'
     refine ih _ x W' (by simpa using hs) htodo (by rw[hfl];exact hR') hD' (fun j oj hoj hlj=>?_);by_cases e:j=i
     ·subst e;obtain rfl:o=oj:=Option.some.inj (ho'.symm.trans hoj);unfold qH;rw[hd];exact hgn j o v W' ho' hd hgood
     ·exact hmono j _ e (hG j oj hoj (by rw[←hother j e];exact hlj))
    | some d=>
     refine hK _ _ ?_;rw[Jt a0 x d v _ hnd (List.mem_filterMap.2 ⟨o,List.mem_of_getElem? ho',hd⟩)];refine ih _ (upd x d v) W' (by simpa using hs) htodo (by rw[hfl];exact hR') hD' (fun j oj hoj hlj=>?_);by_cases e:j=i
     ·subst e;obtain rfl:o=oj:=Option.some.inj (ho'.symm.trans hoj);unfold qH;rw[hd];simpa [upd] using hgood
     ·have hsv:qH (upd x d v) oj=qH x oj:=by
       unfold qH
       cases hdj:oj.dst with
       | none=>rfl
       | some d'=>
        have:d'≠d:=fun h=>e ((QW hback ho').2 j oj d hoj hd (by rw[hdj,h]))
        simp[upd,this]
      rw[hsv];exact hmono j _ e (hG j oj hoj (by rw[←hother j e];exact hlj))
theorem zD {id:Nat}{w:World}{ds:List Tmp}(hds:ops.filterMap (·.dst)=ds)(hnd:ds.Nodup)(hback:Yb ops=true)(hm:P.follows .mixedOrders=true)(hR:R false w.drew)
  (hstep: ∀(i:Nat) (o:Oper),ops[i]? =some o→ ∀(f:Bool) (x:Tmp→Value) (W:World),R f W→((ZS ops s i||i==s)=true→f=false)→
   (∀e∈o.after,Region.binds .any e=true→ ∀oe,ops[e.on]? =some oe→Good e.on (qH x oe) W)→
   ∀K:Act→World→Prop,(∀v W',R (f||i==s) W'→(∀j u,j≠i→Good j u W→Good j u W')→Good i v W'→K ((lay a0 x ds).put o.dst v) W')→
   if Region.wanted o (yielded ops.toArray (lay a0 x ds).tmps)=true then Oper.wp P o (lay a0 x ds) W K Q else K ((lay a0 x ds).put o.dst undef) W)
  (hgn: ∀i o v W,ops[i]? =some o→o.dst=none→Good i v W→Good i undef W)
  (hend: ∀(f:Bool) (x:Tmp→Value) (W:World),R f W→(∀i o,ops[i]? =some o→Good i (qH x o) W)→Q .normal (lay a0 x ds) W):
  (Code.region id ops.toArray true).wp P Q a0 w:=by
 subst hds;refine wp_region_any hm ?_;have h:=qcA (P:=P) (s:=s) (a0:=a0) (Q:=Q) hnd hback hstep hgn hend ops.toArray.size (Array.replicate ops.toArray.size false) (fun d=>a0.tmps.getD d undef) w.drew (by simp) (by
  simp only[Array.toList_replicate,ZB,List.countP_replicate];simp) (by rw[Lh,Array.getElem?_replicate];split<;>exact hR) (fun j oj hoj hlj=>by
   have hlt:j<ops.length:=(List.getElem?_eq_some_iff.1 hoj).1;simp[Lh,hlt]at hlj) (fun i o hi hl=>by
  have hlt:i<ops.length:=(List.getElem?_eq_some_iff.1 hi).1;simp[Lh,hlt]at hl)
 rw[jh]at h;exact h
end
end Go.Proofs.YtdndeffmlhaipaaGreatDoor
