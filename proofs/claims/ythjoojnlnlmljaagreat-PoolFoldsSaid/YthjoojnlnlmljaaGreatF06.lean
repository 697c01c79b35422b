/- A region that draws its order, whose last operation waits for all others: the others in whatever order, then the last. No condition. -/
import Derived.Test.YthjoojnlnlmljaaGreatP00
import Derived.OrdersHeld
import Derived.Deep.RegionHeld3
import Derived.BigQuiet
import Derived.Deep.QuietTactic
set_option linter.all false
set_option maxRecDepth 100000
set_option maxHeartbeats 8000000
namespace Go.Proofs.YthjoojnlnlmljaaGreat
open Go
def Jn (P:Program)(ops:Array Oper)(o:Oper)(Q:Exit→Act→World→Prop):Exit→Act→World→Prop
 | .normal,a,w=>wpList P ops Q [o] a w
 | e,a,w=>Q e a w
theorem qhy {P:Program}{ops:Array Oper}{o D:Oper}{Q:Exit→Act→World→Prop}{K:Act→World→Prop}{a:Act}{w:World}(h:D.wp P a w K (Jn P ops o Q)):D.wp P a w K Q:=by
 unfold Oper.wp at*;generalize (execOp a.eval D).run P w=r at*
 cases r with
 | ok n w'=>
  cases n<;>simp only[Oper.upon]at h⊢ <;>
   first
    | exact h
    | exact Calls.mono h (fun e G q=>by cases e<;>exact q)
    | exact Rows.mono h (fun _ _ q=>q)
 | halt x w'=>cases x<;>simp only[Oper.upon]at h⊢ <;>exact h
def qb9 (md:Region.Mode)(l:List Oper):Bool:=
 (List.range l.length).all fun j=>match l[j]? with
  | some oj=>oj.guard.isNone&&oj.after.all fun e=> !Region.binds md e||decide (e.on<j)
  | none=>true
section
variable {P:Program} {md:Region.Mode} {init:Array Oper} {o:Oper} {Q:Exit→Act→World→Prop}
theorem Zg (h:qb9 md init.toList=true){j:Nat}{G:Oper}(O:init[j]? =some G):G.guard=none∧ ∀e∈G.after,Region.binds md e=true→e.on<j:=by
 have I:j<init.size:=(Ai O).1;have D:=List.all_eq_true.1 h j (List.mem_range.2 (by simpa using I));have J:init.toList[j]? =some G:=by simpa using O
 rw[J]at D;simp only[Bool.and_eq_true,Option.isNone_iff_eq_none,Array.all_eq_true_iff_forall_mem,Bool.or_eq_true,Bool.not_eq_true',decide_eq_true_eq]at D;refine⟨D.1,fun e S U=>?_⟩;rcases D.2 e S with q|q
 ·rw[U]at q;cases q
 ·exact q
theorem qbd (h:qb9 md init.toList=true){q:Array Bool}(Y:q.size=init.size)(X:Region.ready md init q=[]): ∀j,j<init.size→q.getD j true=true:=by
 intro j;induction j using Nat.strongRecOn with
 | _ j ih=>
  intro U
  cases hl:q.getD j true with
  | true=>rfl
  | false=>
   obtain⟨G,J⟩: ∃G,init[j]? =some G:=⟨init[j],by simp[U]⟩;have O:j∈Region.ready md init q:=mem_ready.2 ⟨hl,G,J,fun e S V=>by
    have I:=(Zg h J).2 e S V;have:=ih e.on I (by omega)
    have D:e.on<q.size:=by omega
    simp only[Lh,Array.getElem?_eq_getElem D,Option.getD_some]at this⊢;exact this⟩
   rw[X]at O;cases O
theorem ya {l:Array Bool}{b d:Bool}{j:Nat}(h:j<l.size):(l.push b).getD j d=l.getD j d:=by
 simp only[Lh,Array.getElem?_push,if_neg (show ¬j=l.size by omega)]
theorem YO {l:Array Bool}{j:Nat}(h:j<l.size):l.getD j false=l.getD j true:=by
 simp only[Lh,Array.getElem?_eq_getElem h,Option.getD_some]
end
def qhO (md:Region.Mode)(o:Oper):List Nat:=(o.after.toList.filter fun e=>Region.binds md e).map (·.on)
def qcI (md:Region.Mode)(init:List Oper):Nat→List Nat→List Nat
 | 0,s=>s
 | i+1,s=>qcI md init i (if s.contains i then(match init[i]? with|some oi=>qhO md oi|none=>[])++s else s)
def JF (md:Region.Mode)(init:List Oper)(o:Oper)(n:Nat):Bool:=
 o.guard.isNone&&((List.range n).all fun j=>(qcI md init n (qhO md o)).contains j)&&o.after.all fun e=> !Region.binds md e||decide (e.on<n)
def qhx (md:Region.Mode)(init:Array Oper)(listed:Array Bool):Prop:= ∀i oi,init[i]? =some oi→listed.getD i true=true→ ∀e∈oi.after,Region.binds md e=true→e.on<init.size→listed.getD e.on true=true
section
variable {P:Program} {md:Region.Mode} {init:Array Oper} {o:Oper} {Q:Exit→Act→World→Prop}
theorem qdz {md:Region.Mode}{o:Oper}{j:Nat}(h:j∈qhO md o): ∃e∈o.after,Region.binds md e=true∧e.on=j:=by
 obtain⟨e,D,rfl⟩:=List.mem_map.1 h;obtain⟨G,q⟩:=List.mem_filter.1 D;exact⟨e,by simpa using G,q,rfl⟩
theorem j8 {q:Array Bool}(I:qhx md init q)(O:q.size=init.size): ∀(i:Nat) (s:List Nat),(∀j∈s,q.getD j true=true)→ ∀j∈qcI md init.toList i s,q.getD j true=true
 | 0,s,h=>h
 | i+1,s,h=>by
  refine j8 I O i _ ?_;split
  ·rename_i Y;have V:=h i (by simpa using Y);intro j D;rcases List.mem_append.1 D with D|D
   ·split at D
    ·rename_i U J;obtain⟨e,S,X,rfl⟩:=qdz D;by_cases G:e.on<init.size
     ·exact I i U (by simpa using J) V e S X G
     ·rw[Lh,Array.getElem?_eq_none (by omega)];rfl
    ·cases D
   ·exact h j D
  ·exact h
theorem ZK (S:JF md init.toList o init.size=true):o.guard=none∧(∀e∈o.after,Region.binds md e=true→e.on<init.size)∧
  ∀q:Array Bool,qhx md init q→q.size=init.size→(∀e∈o.after,Region.binds md e=true→q.getD e.on true=true)→ ∀j,j<init.size→q.getD j true=true:=by
 simp only[JF,Bool.and_eq_true,Option.isNone_iff_eq_none,Array.all_eq_true_iff_forall_mem,Bool.or_eq_true,Bool.not_eq_true',decide_eq_true_eq,List.all_eq_true,List.mem_range]at S;obtain⟨⟨Y,D⟩,O⟩:=S;refine⟨Y,fun e G J=>?_,fun q X V U j I=>?_⟩
 ·rcases O e G with h|h
  ·rw[J]at h;cases h
  ·exact h
 ·refine j8 X V init.size (qhO md o) (fun j I=>?_) j (by simpa using D j I);obtain⟨e,G,J,rfl⟩:=qdz I;exact U e G J
theorem qaZ (ho:JF md init.toList o init.size=true)(hb:qb9 md init.toList=true){q:Array Bool}(hs:q.size=init.size)(D: ∀j,j<init.size→q.getD j true=true){a:Act}{w:World}(h:wpList P (init.push o) Q [o] a w):
  ∀fuel,wpAny P md (init.push o) Q (fuel+1) (q.push false) a w:=by
 obtain⟨hg,X, -⟩:=ZK ho;have G:(init.push o)[init.size]? =some o:=by simp
 have V:init.size∈Region.ready md (init.push o) (q.push false):=mem_ready.2 ⟨by simp[Lh,←hs],o,G,fun e he aa=>by
  have h2:=X e he aa;rw[ya (by omega),YO (by omega)];exact D _ h2⟩
 have hw:Region.wanted o (yielded (init.push o) a.tmps)=true:=by simp[Region.wanted,hg]
 have I:Region.ready md (init.push o) ((q.push false).setIfInBounds init.size true)=[]:=by
  rw[List.eq_nil_iff_forall_not_mem];intro i U;obtain⟨J,oi,O, -⟩:=mem_ready.1 U;have Y:i<init.size+1:=by have:=(Ai O).1;simpa using this
  by_cases e:i=init.size
  ·subst e;simp[Lh,hs]at J
  ·rw[getD_set_ne true (Ne.symm e),ya (by omega),D i (by omega)]at J
   cases J
 intro fuel;refine⟨fun h0=>(by rw[h0]at V;cases V),fun i U=>?_⟩;have Z:i=init.size:=by
  obtain⟨J,oi,O, -⟩:=mem_ready.1 U;have Y:i<init.size+1:=by have:=(Ai O).1;simpa using this
  by_cases e:i=init.size
  ·exact e
  ·rw[ya (by omega),D i (by omega)]at J;cases J
 subst Z;unfold wpOp;rw[G];simp only[hw,if_true];have S:=h;unfold wpList at S;simp only[hw,if_true]at S;refine S.imp (Oper.wp_mono fun a' w' hq=>?_) id
 cases fuel with
 | zero=>exact⟨I,hq⟩
 | succ f=>exact⟨fun _=>hq,by rw[I];simp⟩
theorem jB (ho:JF md init.toList o init.size=true)(U:qb9 md init.toList=true): ∀(fuel:Nat) (q:Array Bool) (a:Act) (w:World),q.size=init.size→qhx md init q→
  wpAny P md init (Jn P (init.push o) o Q) fuel q a w→wpAny P md (init.push o) Q (fuel+1) (q.push false) a w
 | 0,q,a,w,hs,hD,H=>qaZ ho U hs (qbd U hs H.1) H.2 0
 | fuel+1,q,a,w,hs,hD,H=>by
  by_cases hr:Region.ready md init q=[]
  ·exact qaZ ho U hs (qbd U hs hr) (H.1 hr) (fuel+1)
  ·obtain⟨hg, -,aj⟩:=ZK ho;have key: ∀i,i∈Region.ready md (init.push o) (q.push false)↔i∈Region.ready md init q:=by
    intro i;constructor
    ·intro hi;obtain⟨O,X,D,J⟩:=mem_ready.1 hi;have ap:i<init.size+1:=by have:=(Ai D).1;simpa using this
     by_cases e:i=init.size
     ·exfalso
      subst e;obtain rfl:o=X:=by simpa using D
      obtain⟨j,hj⟩:=List.exists_mem_of_ne_nil _ hr;obtain⟨Z,oj,Y, -⟩:=mem_ready.1 hj;have al:j<init.size:=(Ai Y).1;have h4:=aj q hD hs (fun V G af=>by
       have h4:=J V G af;have ao:=(ZK ho).2.1 V G af;rw[ya (by omega),YO (by omega)]at h4;exact h4) j al
      rw[Z]at h4
      cases h4
     ·have ab:i<init.size:=by omega
      have S:init[i]? =some X:=by
       rw[Array.getElem?_push,if_neg e]at D;exact D
      refine mem_ready.2 ⟨by rw[ya (by omega)]at O;exact O,X,S,fun V G I=>?_⟩;have Z:=J V G I;have ah:=(Zg U S).2 V G I;rw[ya (by omega)]at Z;exact Z
    ·intro hi;obtain⟨O,X,D,J⟩:=mem_ready.1 hi;have ab:i<init.size:=(Ai D).1;refine mem_ready.2 ⟨by rw[ya (by omega)];exact O,X,by rw[Array.getElem?_push,if_neg (by omega)];exact D,fun V G I=>?_⟩;have ah:=(Zg U D).2 V G I;rw[ya (by omega)];exact J V G I
   obtain⟨j,hj⟩:=List.exists_mem_of_ne_nil _ hr;refine⟨fun h0=>(by have:=(key j).2 hj;rw[h0]at this;cases this),fun i hi=>?_⟩;have aa:=(key i).1 hi;have O:=H.2 i aa;obtain⟨-,X,D, -⟩:=mem_ready.1 aa;have ab:i<init.size:=(Ai D).1;have S:(init.push o)[i]? =some X:=by rw[Array.getElem?_push,if_neg (by omega)];exact D
   have ak:=(Zg U D).1;have ai:(q.push false).setIfInBounds i true=(q.setIfInBounds i true).push false:=by
    apply Array.ext'
    simp only[Array.toList_setIfInBounds,Array.toList_push];rw[List.set_append_left _ _ (by simpa using(show i<q.size by omega))]
   unfold wpOp at O⊢;rw[D]at O;rw[S];simp only[Region.wanted,ak,if_true]at O⊢;refine O.imp (fun J=>qhy (Oper.wp_mono (fun a' w' Z=>?_) J)) (fun J=>⟨J.1,J.2⟩);rw[ai];refine jB ho U fuel _ a' w' (by simpa using hs) ?_ Z;intro j oj Y ad e he I am;by_cases ac:e.on=i
   ·rw[ac,Lh,Array.getElem?_setIfInBounds];simp[hs,ab]
   ·rw[getD_set_ne true (Ne.symm ac)];by_cases ae:j=i
    ·subst ae;obtain⟨-,an,ag,h6⟩:=mem_ready.1 aa;obtain rfl:an=oj:=Option.some.inj (ag.symm.trans Y);have:=h6 e he I
     rw[YO (by omega)]at this;exact this
    ·rw[getD_set_ne true (Ne.symm ae)]at ad;exact hD j oj Y ad e he I am
end
theorem qh {P:Program}{id:Nat}{Q:Exit→Act→World→Prop}{a:Act}{w:World}{l:List Oper}{o:Oper}{init:List Oper}{n:Nat}(hi:l.dropLast=init)(Y:l.drop init.length=[o])(U:init.length=n)(hm:P.follows .mixedOrders=true)
  (X:JF .any init o n=true) (V:qb9 .any init=true) (I:Region.lexB .any init.toArray=true)
  (h:wpQuiet P init.toArray (fun w'=> ∃n,w'=w.drewN n) (fun q=> ∀w',(∃n,w'=w.drewN n)→wpList P l.toArray Q [o] q w') init a):(Code.region id l.toArray true).wp P Q a w:=by
 subst hi;subst U;have e:l=l.dropLast++[o]:=by
  rw[←Y,List.length_dropLast,List.dropLast_eq_take];exact(List.take_append_drop _ _).symm
 refine wp_region_any hm ?_;have S:l.toArray=l.dropLast.toArray.push o:=by rw[e];simp
 have Z:l.toArray.size=l.dropLast.length+1:=by rw[S];simp
 have e3:Array.replicate (l.dropLast.length+1) false=(Array.replicate l.dropLast.length false).push false:=by
  rw[Array.replicate_succ]
 rw[Z,e3];simp only[Region.lexB,Bool.and_eq_true]at I;have H:wpAny P .any l.dropLast.toArray (Jn P l.toArray o Q) l.dropLast.length (Array.replicate l.dropLast.length false) a w.drew:=by
  refine wpAny_of_quiet (C:=fun w'=> ∃n,w'=w.drewN n) (Q:=fun q=> ∀w',(∃n,w'=w.drewN n)→wpList P l.toArray Q [o] q w') (fun _ w' O h=>h w' O) _ _ _ _ ⟨1,rfl⟩ ?_;have:=wpAnyQ_lex (P:=P) (C:=fun w'=> ∃n,w'=w.drewN n) (md:= .any) (ops:=l.dropLast.toArray) (Q:=fun q=> ∀w',(∃n,w'=w.drewN n)→wpList P l.toArray Q [o] q w') I.1 l.dropLast 0 (Array.replicate l.dropLast.length false) a (by simp) (by simpa using I.2) h
  simpa using this
 rw[S]at H⊢;refine jB (by simpa using X) (by simpa using V) _ _ _ _ (by simp) ?_ H;intro j oj J G;exfalso
 have D:=(Ai J).1;simp only[List.size_toArray]at D;rw[Lh,Array.getElem?_replicate,if_pos D]at G
 cases G
end Go.Proofs.YthjoojnlnlmljaaGreat
