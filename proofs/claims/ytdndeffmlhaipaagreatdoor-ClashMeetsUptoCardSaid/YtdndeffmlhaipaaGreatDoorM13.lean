/- A region that draws its order, by an invariant: of each operation that has come up its slot (and the memory) says what it must. No condition. -/
import Derived.Test.YtdndeffmlhaipaaGreatDoorQ00
import Derived.Orders
import Derived.RegionTactic
set_option linter.all false
set_option maxRecDepth 100000
set_option maxHeartbeats 8000000
namespace Go.Proofs.YtdndeffmlhaipaaGreatDoor
open Go
theorem qbL (a:Act)(d:Option Tmp)(u v:Value):(a.put d u).put d v=a.put d v:=by
 cases d with
 | none=>rfl
 | some d=>simp[Act.put]
theorem qbM (a:Act)(d:Tmp):a.put (some d) (a.tmps.getD d undef)=a:=by
 have h:a.tmps.setIfInBounds d (a.tmps.getD d undef)=a.tmps:=by
  apply Array.ext_getElem?
  intro j;rw[Array.getElem?_setIfInBounds];by_cases e:d=j
  ·subst e;by_cases hd:d<a.tmps.size
   ·simp[hd,Lh]
   ·simp[hd]
  ·simp[e]
 cases a
 simp only[Act.put]at h⊢;rw[h]
def lay (a0:Act)(x:Tmp→Value):List Tmp→Act
 | []=>a0
 | d::ds=>(lay a0 x ds).put (some d) (x d)
def upd (x:Tmp→Value)(d:Tmp)(v:Value):Tmp→Value:=fun e=>if e=d then v else x e
theorem ZL (a0:Act): ∀ds,lay a0 (fun d=>a0.tmps.getD d undef) ds=a0
 | []=>rfl
 | d::ds=>by
  show(lay a0 _ ds).put (some d) _=a0
  rw[ZL a0 ds];exact qbM a0 d
theorem qaa (a0:Act){x y:Tmp→Value}: ∀ds,(∀d∈ds,x d=y d)→lay a0 x ds=lay a0 y ds
 | [],_=>rfl
 | d::ds,h=>by
  show(lay a0 x ds).put (some d) _=(lay a0 y ds).put (some d) _
  rw[qaa a0 ds (fun e he=>h e (by simp[he])),h d (by simp)]
theorem qaJ (a0:Act)(x:Tmp→Value)(d:Tmp)(v:Value): ∀ds,ds.Nodup→d∈ds→(lay a0 x ds).put (some d) v=lay a0 (upd x d v) ds
 | [],_,h=>by cases h
 | e::ds,hn,h=>by
  show((lay a0 x ds).put (some e) (x e)).put (some d) v=(lay a0 (upd x d v) ds).put (some e) (upd x d v e)
  have hn':=List.nodup_cons.1 hn;by_cases he:d=e
  ·subst he;rw[qbL,qaa a0 (x:=upd x d v) (y:=x) ds (fun e he=>by
    have:e≠d:=fun h=>hn'.1 (h▸he)
    simp[upd,this])]
   simp[upd]
  ·have hd:d∈ds:=by
    rcases List.mem_cons.1 h with h|h
    ·exact absurd h he
    ·exact h
   rw[Act.put_comm _ (x e) v (fun c hc hd'=>by simp only[Option.some.injEq]at hc hd';exact he (hd'.trans hc.symm)),qaJ a0 x d v ds hn'.2 hd];have:upd x d v e=x e:=by simp[upd,Ne.symm he]
   rw[this]
def qC (x:Tmp→Value)(o:Oper):Value:=match o.dst with|some d=>x d|none=>undef
def Yx (l:List Bool):Nat:=l.countP (fun b=> !b)
theorem j0: ∀(l:List Bool) (i:Nat),l[i]? =some false→Yx (l.set i true)+1=Yx l
 | [],i,h=>by simp at h
 | b::l,0,h=>by simp at h;subst h;simp[Yx]
 | b::l,i+1,h=>by
  have:=j0 l i (by simpa using h)
  simp only[Yx,List.set_cons_succ,List.countP_cons]at this⊢;omega
theorem JW {l:List Bool}(h:Yx l=0): ∀i,l.getD i true=true:=by
 intro i;simp only[Yx,List.countP_eq_zero]at h;rw[Lg]
 cases e:l[i]? with
 | none=>rfl
 | some b=>have:=h b (List.mem_of_getElem? e);simpa using this
def yr (l:List Oper):Bool:=
 (List.range l.length).all fun j=>match l[j]? with
  | some oj=>(oj.after.all fun e=> !Region.binds .any e||decide (e.on<j))&&(List.range l.length).all fun i=>i==j||match l[i]?,oj.dst with
   | some oi,some d=>oi.dst != some d
   | _,_=>true
  | none=>true
theorem QR {l:List Oper}(h:yr l=true){j:Nat}{oj:Oper}(hj:l[j]? =some oj):(∀e∈oj.after,Region.binds .any e=true→e.on<j)∧ ∀i oi d,l[i]? =some oi→oj.dst=some d→oi.dst=some d→i=j:=by
 have hlt:j<l.length:=(List.getElem?_eq_some_iff.1 hj).1;have h1:=List.all_eq_true.1 h j (List.mem_range.2 hlt);rw[hj]at h1;simp only[Bool.and_eq_true,Array.all_eq_true_iff_forall_mem,List.all_eq_true,Bool.or_eq_true,Bool.not_eq_true',decide_eq_true_eq,List.mem_range,beq_iff_eq]at h1;refine⟨fun e he hb=>?_,fun i oi d hi hd hd'=>?_⟩
 ·rcases h1.1 e he with h2|h2
  ·rw[hb]at h2;cases h2
  ·exact h2
 ·have hil:i<l.length:=(List.getElem?_eq_some_iff.1 hi).1;rcases h1.2 i hil with h2|h2
  ·exact h2
  ·rw[hi,hd]at h2;simp[hd']at h2
section
variable {P:Program} {ops:List Oper} {a0:Act} {Q:Exit→Act→World→Prop} {R:World→Prop} {Good:Nat→Value→World→Prop}
theorem ZY (hnd:(ops.filterMap (·.dst)).Nodup)(hback:yr ops=true)
  (hstep: ∀(i:Nat) (o:Oper),ops[i]? =some o→ ∀(x:Tmp→Value) (W:World),R W→
   (∀e∈o.after,Region.binds .any e=true→ ∀oe,ops[e.on]? =some oe→Good e.on (qC x oe) W)→
   ∀K:Act→World→Prop,(∀v W',R W'→(∀j u,j≠i→Good j u W→Good j u W')→Good i v W'→K ((lay a0 x (ops.filterMap (·.dst))).put o.dst v) W')→
   if Region.wanted o (yielded ops.toArray (lay a0 x (ops.filterMap (·.dst))).tmps)=true then Oper.wp P o (lay a0 x (ops.filterMap (·.dst))) W K Q else K ((lay a0 x (ops.filterMap (·.dst))).put o.dst undef) W)
  (hgn: ∀i o v W,ops[i]? =some o→o.dst=none→Good i v W→Good i undef W)
  (hend: ∀(x:Tmp→Value) (W:World),R W→(∀i o,ops[i]? =some o→Good i (qC x o) W)→Q .normal (lay a0 x (ops.filterMap (·.dst))) W):
  ∀(fuel:Nat) (listed:Array Bool) (x:Tmp→Value) (W:World),listed.size=ops.length→Yx listed.toList≤fuel→R W→(∀i o,ops[i]? =some o→listed.getD i true=true→Good i (qC x o) W)→
   wpAny P .any ops.toArray Q fuel listed (lay a0 x (ops.filterMap (·.dst))) W:=by
 have none_left: ∀(listed:Array Bool) (x:Tmp→Value) (W:World),R W→(∀i o,ops[i]? =some o→listed.getD i true=true→Good i (qC x o) W)→(∀i,listed.getD i true=true)→Q .normal (lay a0 x (ops.filterMap (·.dst))) W:=
  fun listed x W hR hG hall=>hend x W hR (fun i o hi=>hG i o hi (hall i))
 intro fuel;induction fuel with
 | zero=>
  intro listed x W hs ht hR hG;have hall: ∀i,listed.getD i true=true:=fun i=>by
   have:=JW (l:=listed.toList) (by omega) i
   simpa [Lh,Lg] using this
  refine⟨?_,none_left listed x W hR hG hall⟩;rw[List.eq_nil_iff_forall_not_mem];intro j hj;have:=(mem_ready.1 hj).1
  rw[hall j]at this
  cases this
 | succ fuel ih=>
  intro listed x W hs ht hR hG;refine⟨fun hr=>none_left listed x W hR hG ?_,fun i hi=>?_⟩
  ·intro j;induction j using Nat.strongRecOn with
   | _ j ihj=>
    cases hl:listed.getD j true with
    | true=>rfl
    | false=>
     have hj:j<listed.size:=by
      rw[Lh]at hl
      cases e:listed[j]? with
      | none=>rw[e]at hl;cases hl
      | some b=>exact(Ai e).1
     obtain⟨oj,ho⟩: ∃oj,ops[j]? =some oj:=⟨ops[j]'(by omega),by simp[show j<ops.length by omega]⟩;have hm:j∈Region.ready .any ops.toArray listed:=mem_ready.2 ⟨hl,oj,by simpa using ho,fun e he hb=>by
      have hlt:=(QR hback ho).1 e he hb;have h2:=ihj e.on hlt;have hlt':e.on<listed.size:=by omega
      simp only[Lh,Array.getElem?_eq_getElem hlt',Option.getD_some]at h2⊢;exact h2⟩
     rw[hr]at hm;cases hm
  ·obtain⟨hun,o,ho,hdep⟩:=mem_ready.1 hi;have ho':ops[i]? =some o:=by simpa using ho
   have hi':i<listed.size:=by
    have:=(List.getElem?_eq_some_iff.1 ho').1
    omega
   have hun':listed.toList[i]? =some false:=by
    rw[Lh,Array.getElem?_eq_getElem hi',Option.getD_some]at hun;rw[Array.getElem?_toList,Array.getElem?_eq_getElem hi',hun]
   have htodo:Yx (listed.setIfInBounds i true).toList≤fuel:=by
    have:=j0 listed.toList i hun'
    rw[Array.toList_setIfInBounds];omega
   have hother: ∀j,j≠i→(listed.setIfInBounds i true).getD j true=listed.getD j true:=fun j hj=>by
    simp only[Lh,Array.getElem?_setIfInBounds];rw[if_neg (Ne.symm hj)]
   refine wpOp_step ho fun K hK=>hstep i o ho' x W hR (fun e he hb oe hoe=>hG e.on oe hoe ?_) K fun v W' hR' hmono hgood=>?_
   ·have:=hdep e he hb
    rw[Lh]at this⊢
    cases e':listed[e.on]? with
    | none=>rfl
    | some b=>rw[e']at this;exact this
   ·cases hd:o.dst with
    | none=>
     refine hK _ _ ?_;show wpAny P .any ops.toArray Q fuel (listed.setIfInBounds i true) (lay a0 x (ops.filterMap (·.dst))) W'
     refine ih _ x W' (by simpa using hs) htodo hR' (fun j oj hoj hlj=>?_);by_cases e:j=i
     ·subst e;obtain rfl:o=oj:=Option.some.inj (ho'.symm.trans hoj);unfold qC;rw[hd];exact hgn j o v W' ho' hd hgood
     ·exact hmono j _ e (hG j oj hoj (by rw[←hother j e];exact hlj))
    | some d=>
     refine hK _ _ ?_;rw[qaJ a0 x d v _ hnd (List.mem_filterMap.2 ⟨o,List.mem_of_getElem? ho',hd⟩)];refine ih _ (upd x d v) W' (by simpa using hs) htodo hR' (fun j oj hoj hlj=>?_);by_cases e:j=i
     ·subst e;obtain rfl:o=oj:=Option.some.inj (ho'.symm.trans hoj);unfold qC;rw[hd];simpa [upd] using hgood
     ·have hsv:qC (upd x d v) oj=qC x oj:=by
       unfold qC
       cases hdj:oj.dst with
       | none=>rfl
       | some d'=>
        have:d'≠d:=fun h=>e ((QR hback ho').2 j oj d hoj hd (by rw[hdj,h]))
        simp[upd,this]
      rw[hsv];exact hmono j _ e (hG j oj hoj (by rw[←hother j e];exact hlj))
theorem JK {id:Nat}{w:World}{ds:List Tmp}(hds:ops.filterMap (·.dst)=ds)(hnd:ds.Nodup)(hback:yr ops=true)(hm:P.follows .mixedOrders=true)(hR:R w.drew)
  (hstep: ∀(i:Nat) (o:Oper),ops[i]? =some o→ ∀(x:Tmp→Value) (W:World),R W→
   (∀e∈o.after,Region.binds .any e=true→ ∀oe,ops[e.on]? =some oe→Good e.on (qC x oe) W)→
   ∀K:Act→World→Prop,(∀v W',R W'→(∀j u,j≠i→Good j u W→Good j u W')→Good i v W'→K ((lay a0 x ds).put o.dst v) W')→
   if Region.wanted o (yielded ops.toArray (lay a0 x ds).tmps)=true then Oper.wp P o (lay a0 x ds) W K Q else K ((lay a0 x ds).put o.dst undef) W)
  (hgn: ∀i o v W,ops[i]? =some o→o.dst=none→Good i v W→Good i undef W)
  (hend: ∀(x:Tmp→Value) (W:World),R W→(∀i o,ops[i]? =some o→Good i (qC x o) W)→Q .normal (lay a0 x ds) W):
  (Code.region id ops.toArray true).wp P Q a0 w:=by
 subst hds;refine wp_region_any hm ?_;have h:=ZY (P:=P) (a0:=a0) (Q:=Q) hnd hback hstep hgn hend ops.toArray.size (Array.replicate ops.toArray.size false) (fun d=>a0.tmps.getD d undef) w.drew (by simp) (by
  simp only[Array.toList_replicate,Yx,List.countP_replicate];simp) hR (fun i o hi hl=>by
  have hlt:i<ops.length:=(List.getElem?_eq_some_iff.1 hi).1;simp[Lh,hlt]at hl)
 rw[ZL]at h;exact h
end
def qav (ops:List Oper)(s i:Nat):Bool:=match ops[s]? with
 | some o=>o.after.any fun e=>Region.binds .any e&&e.on==i
 | none=>false
theorem qa0 {ops:List Oper}{s i:Nat}(h:qav ops s i=true): ∃o,ops[s]? =some o∧ ∃e∈o.after,Region.binds .any e=true∧e.on=i:=by
 unfold qav at h;split at h
 ·rename_i o ho;obtain⟨e,he,h⟩:=Array.any_eq_true'.1 h;simp only[Bool.and_eq_true,beq_iff_eq]at h;exact⟨o,ho,e,he,h.1,h.2⟩
 ·cases h
section
variable {P:Program} {ops:List Oper} {a0:Act} {Q:Exit→Act→World→Prop} {R:Bool→World→Prop} {s:Nat} {Good:Nat→Value→World→Prop}
end
end Go.Proofs.YtdndeffmlhaipaaGreatDoor
