/- A region that draws its order, whose last operation waits for all others: the others in whatever order, then the last. No condition. -/
import Derived.Test.YthjoojnlnlmljaaGreatP00
import Derived.OrdersHeld
import Derived.Deep.RegionHeld3
import Derived.BigQuiet
import Derived.Deep.QuietTactic
set_option linter.all false
set_option maxRecDepth 100000
set_option maxHeartbeats 8000000
namespace Go.Proofs.YthjoojnlnlmljaaGreat
open Go
def JO (P:Program)(ops:Array Oper)(o:Oper)(Q:Exit→Act→World→Prop):Exit→Act→World→Prop
 | .normal,a,w=>wpList P ops Q [o] a w
 | e,a,w=>Q e a w
theorem qib {P:Program}{ops:Array Oper}{o D:Oper}{Q:Exit→Act→World→Prop}{K:Act→World→Prop}{a:Act}{w:World}(h:D.wp P a w K (JO P ops o Q)):D.wp P a w K Q:=by
 unfold Oper.wp at*;generalize (execOp a.eval D).run P w=r at*
 cases r with
 | ok n w'=>
  cases n<;>simp only[Oper.upon]at h⊢ <;>
   first
    | exact h
    | exact Calls.mono h (fun e G q=>by cases e<;>exact q)
    | exact Rows.mono h (fun _ _ q=>q)
 | halt x w'=>cases x<;>simp only[Oper.upon]at h⊢ <;>exact h
def qcE (md:Region.Mode)(l:List Oper):Bool:=
 (List.range l.length).all fun j=>match l[j]? with
  | some oj=>oj.guard.isNone&&oj.after.all fun e=> !Region.binds md e||decide (e.on<j)
  | none=>true
section
variable {P:Program} {md:Region.Mode} {init:Array Oper} {o:Oper} {Q:Exit→Act→World→Prop}
theorem Zr (h:qcE md init.toList=true){j:Nat}{D:Oper}(O:init[j]? =some D):D.guard=none∧ ∀e∈D.after,Region.binds md e=true→e.on<j:=by
 have I:j<init.size:=(Ai O).1;have G:=List.all_eq_true.1 h j (List.mem_range.2 (by simpa using I));have J:init.toList[j]? =some D:=by simpa using O
 rw[J]at G;simp only[Bool.and_eq_true,Option.isNone_iff_eq_none,Array.all_eq_true_iff_forall_mem,Bool.or_eq_true,Bool.not_eq_true',decide_eq_true_eq]at G;refine⟨G.1,fun e U V=>?_⟩;rcases G.2 e U with q|q
 ·rw[V]at q;cases q
 ·exact q
theorem qbG (h:qcE md init.toList=true){q:Array Bool}(Z:q.size=init.size)(X:Region.ready md init q=[]): ∀j,j<init.size→q.getD j true=true:=by
 intro j;induction j using Nat.strongRecOn with
 | _ j ih=>
  intro Y
  cases hl:q.getD j true with
  | true=>rfl
  | false=>
   obtain⟨G,O⟩: ∃G,init[j]? =some G:=⟨init[j],by simp[Y]⟩;have I:j∈Region.ready md init q:=mem_ready.2 ⟨hl,G,O,fun e U V=>by
    have J:=(Zr h O).2 e U V;have:=ih e.on J (by omega)
    have D:e.on<q.size:=by omega
    simp only[Lh,Array.getElem?_eq_getElem D,Option.getD_some]at this⊢;exact this⟩
   rw[X]at I;cases I
theorem yf {l:Array Bool}{b d:Bool}{j:Nat}(h:j<l.size):(l.push b).getD j d=l.getD j d:=by
 simp only[Lh,Array.getElem?_push,if_neg (show ¬j=l.size by omega)]
theorem YY {l:Array Bool}{j:Nat}(h:j<l.size):l.getD j false=l.getD j true:=by
 simp only[Lh,Array.getElem?_eq_getElem h,Option.getD_some]
end
def qis (md:Region.Mode)(o:Oper):List Nat:=(o.after.toList.filter fun e=>Region.binds md e).map (·.on)
def qdc (md:Region.Mode)(init:List Oper):Nat→List Nat→List Nat
 | 0,s=>s
 | i+1,s=>qdc md init i (if s.contains i then(match init[i]? with|some oi=>qis md oi|none=>[])++s else s)
def J3 (md:Region.Mode)(init:List Oper)(o:Oper)(n:Nat):Bool:=
 o.guard.isNone&&((List.range n).all fun j=>(qdc md init n (qis md o)).contains j)&&o.after.all fun e=> !Region.binds md e||decide (e.on<n)
def qia (md:Region.Mode)(init:Array Oper)(listed:Array Bool):Prop:= ∀i oi,init[i]? =some oi→listed.getD i true=true→ ∀e∈oi.after,Region.binds md e=true→e.on<init.size→listed.getD e.on true=true
section
variable {P:Program} {md:Region.Mode} {init:Array Oper} {o:Oper} {Q:Exit→Act→World→Prop}
theorem qd7 {md:Region.Mode}{o:Oper}{j:Nat}(h:j∈qis md o): ∃e∈o.after,Region.binds md e=true∧e.on=j:=by
 obtain⟨e,D,rfl⟩:=List.mem_map.1 h;obtain⟨G,q⟩:=List.mem_filter.1 D;exact⟨e,by simpa using G,q,rfl⟩
theorem Jy {q:Array Bool}(J:qia md init q)(Y:q.size=init.size): ∀(i:Nat) (s:List Nat),(∀j∈s,q.getD j true=true)→ ∀j∈qdc md init.toList i s,q.getD j true=true
 | 0,s,h=>h
 | i+1,s,h=>by
  refine Jy J Y i _ ?_;split
  ·rename_i V;have U:=h i (by simpa using V);intro j D;rcases List.mem_append.1 D with D|D
   ·split at D
    ·rename_i Z I;obtain⟨e,O,X,rfl⟩:=qd7 D;by_cases G:e.on<init.size
     ·exact J i Z (by simpa using I) U e O X G
     ·rw[Lh,Array.getElem?_eq_none (by omega)];rfl
    ·cases D
   ·exact h j D
  ·exact h
theorem Z0 (O:J3 md init.toList o init.size=true):o.guard=none∧(∀e∈o.after,Region.binds md e=true→e.on<init.size)∧
  ∀q:Array Bool,qia md init q→q.size=init.size→(∀e∈o.after,Region.binds md e=true→q.getD e.on true=true)→ ∀j,j<init.size→q.getD j true=true:=by
 simp only[J3,Bool.and_eq_true,Option.isNone_iff_eq_none,Array.all_eq_true_iff_forall_mem,Bool.or_eq_true,Bool.not_eq_true',decide_eq_true_eq,List.all_eq_true,List.mem_range]at O;obtain⟨⟨X,I⟩,U⟩:=O;refine⟨X,fun e D G=>?_,fun q Y Z V j J=>?_⟩
 ·rcases U e D with h|h
  ·rw[G]at h;cases h
  ·exact h
 ·refine Jy Y Z init.size (qis md o) (fun j J=>?_) j (by simpa using I j J);obtain⟨e,D,G,rfl⟩:=qd7 J;exact V e D G
theorem qbt (ho:J3 md init.toList o init.size=true)(hb:qcE md init.toList=true){q:Array Bool}(Z:q.size=init.size)(D: ∀j,j<init.size→q.getD j true=true){a:Act}{w:World}(h:wpList P (init.push o) Q [o] a w):
  ∀fuel,wpAny P md (init.push o) Q (fuel+1) (q.push false) a w:=by
 obtain⟨hg,ac, -⟩:=Z0 ho;have G:(init.push o)[init.size]? =some o:=by simp
 have hn:init.size∈Region.ready md (init.push o) (q.push false):=mem_ready.2 ⟨by simp[Lh,←Z],o,G,fun e he Y=>by
  have h2:=ac e he Y;rw[yf (by omega),YY (by omega)];exact D _ h2⟩
 have hw:Region.wanted o (yielded (init.push o) a.tmps)=true:=by simp[Region.wanted,hg]
 have I:Region.ready md (init.push o) ((q.push false).setIfInBounds init.size true)=[]:=by
  rw[List.eq_nil_iff_forall_not_mem];intro i U;obtain⟨J,oi,O, -⟩:=mem_ready.1 U;have aa:i<init.size+1:=by have:=(Ai O).1;simpa using this
  by_cases e:i=init.size
  ·subst e;simp[Lh,Z]at J
  ·rw[getD_set_ne true (Ne.symm e),yf (by omega),D i (by omega)]at J
   cases J
 intro fuel;refine⟨fun h0=>(by rw[h0]at hn;cases hn),fun i U=>?_⟩;have ab:i=init.size:=by
  obtain⟨J,oi,O, -⟩:=mem_ready.1 U;have aa:i<init.size+1:=by have:=(Ai O).1;simpa using this
  by_cases e:i=init.size
  ·exact e
  ·rw[yf (by omega),D i (by omega)]at J;cases J
 subst ab;unfold wpOp;rw[G];simp only[hw,if_true];have V:=h;unfold wpList at V;simp only[hw,if_true]at V;refine V.imp (Oper.wp_mono fun a' w' X=>?_) id
 cases fuel with
 | zero=>exact⟨I,X⟩
 | succ f=>exact⟨fun _=>X,by rw[I];simp⟩
theorem jU (ho:J3 md init.toList o init.size=true)(X:qcE md init.toList=true): ∀(fuel:Nat) (q:Array Bool) (a:Act) (w:World),q.size=init.size→qia md init q→
  wpAny P md init (JO P (init.push o) o Q) fuel q a w→wpAny P md (init.push o) Q (fuel+1) (q.push false) a w
 | 0,q,a,w,hs,hD,H=>qbt ho X hs (qbG X hs H.1) H.2 0
 | fuel+1,q,a,w,hs,hD,H=>by
  by_cases hr:Region.ready md init q=[]
  ·exact qbt ho X hs (qbG X hs hr) (H.1 hr) (fuel+1)
  ·obtain⟨hg, -,aj⟩:=Z0 ho;have key: ∀i,i∈Region.ready md (init.push o) (q.push false)↔i∈Region.ready md init q:=by
    intro i;constructor
    ·intro hi;obtain⟨U,Y,D,J⟩:=mem_ready.1 hi;have ap:i<init.size+1:=by have:=(Ai D).1;simpa using this
     by_cases e:i=init.size
     ·exfalso
      subst e;obtain rfl:o=Y:=by simpa using D
      obtain⟨j,hj⟩:=List.exists_mem_of_ne_nil _ hr;obtain⟨h3,oj,Z, -⟩:=mem_ready.1 hj;have ak:j<init.size:=(Ai Z).1;have h4:=aj q hD hs (fun V G af=>by
       have h4:=J V G af;have ao:=(Z0 ho).2.1 V G af;rw[yf (by omega),YY (by omega)]at h4;exact h4) j ak
      rw[h3]at h4
      cases h4
     ·have ab:i<init.size:=by omega
      have O:init[i]? =some Y:=by
       rw[Array.getElem?_push,if_neg e]at D;exact D
      refine mem_ready.2 ⟨by rw[yf (by omega)]at U;exact U,Y,O,fun V G I=>?_⟩;have h3:=J V G I;have ah:=(Zr X O).2 V G I;rw[yf (by omega)]at h3;exact h3
    ·intro hi;obtain⟨U,Y,D,J⟩:=mem_ready.1 hi;have ab:i<init.size:=(Ai D).1;refine mem_ready.2 ⟨by rw[yf (by omega)];exact U,Y,by rw[Array.getElem?_push,if_neg (by omega)];exact D,fun V G I=>?_⟩;have ah:=(Zr X D).2 V G I;rw[yf (by omega)];exact J V G I
   obtain⟨j,hj⟩:=List.exists_mem_of_ne_nil _ hr;refine⟨fun h0=>(by have:=(key j).2 hj;rw[h0]at this;cases this),fun i hi=>?_⟩;have aa:=(key i).1 hi;have U:=H.2 i aa;obtain⟨-,Y,D, -⟩:=mem_ready.1 aa;have ab:i<init.size:=(Ai D).1;have O:(init.push o)[i]? =some Y:=by rw[Array.getElem?_push,if_neg (by omega)];exact D
   have al:=(Zr X D).1;have ag:(q.push false).setIfInBounds i true=(q.setIfInBounds i true).push false:=by
    apply Array.ext'
    simp only[Array.toList_setIfInBounds,Array.toList_push];rw[List.set_append_left _ _ (by simpa using(show i<q.size by omega))]
   unfold wpOp at U⊢;rw[D]at U;rw[O];simp only[Region.wanted,al,if_true]at U⊢;refine U.imp (fun J=>qib (Oper.wp_mono (fun a' w' h3=>?_) J)) (fun J=>⟨J.1,J.2⟩);rw[ag];refine jU ho X fuel _ a' w' (by simpa using hs) ?_ h3;intro j oj Z ae e he I am;by_cases ad:e.on=i
   ·rw[ad,Lh,Array.getElem?_setIfInBounds];simp[hs,ab]
   ·rw[getD_set_ne true (Ne.symm ad)];by_cases ac:j=i
    ·subst ac;obtain⟨-,an,ai,h6⟩:=mem_ready.1 aa;obtain rfl:an=oj:=Option.some.inj (ai.symm.trans Z);have:=h6 e he I
     rw[YY (by omega)]at this;exact this
    ·rw[getD_set_ne true (Ne.symm ac)]at ae;exact hD j oj Z ae e he I am
end
theorem qj {P:Program}{V:Nat}{Q:Exit→Act→World→Prop}{a:Act}{w:World}{l:List Oper}{o:Oper}{init:List Oper}{n:Nat}(hi:l.dropLast=init)(Y:l.drop init.length=[o])(hn:init.length=n)(hm:P.follows .mixedOrders=true)
  (X:J3 .any init o n=true) (hb:qcE .any init=true) (I:Region.lexB .any init.toArray=true)
  (h:wpQuiet P init.toArray (fun w'=> ∃n,w'=w.drewN n) (fun q=> ∀w',(∃n,w'=w.drewN n)→wpList P l.toArray Q [o] q w') init a):(Code.region V l.toArray true).wp P Q a w:=by
 subst hi;subst hn;have e:l=l.dropLast++[o]:=by
  rw[←Y,List.length_dropLast,List.dropLast_eq_take];exact(List.take_append_drop _ _).symm
 refine wp_region_any hm ?_;have O:l.toArray=l.dropLast.toArray.push o:=by rw[e];simp
 have e2:l.toArray.size=l.dropLast.length+1:=by rw[O];simp
 have Z:Array.replicate (l.dropLast.length+1) false=(Array.replicate l.dropLast.length false).push false:=by
  rw[Array.replicate_succ]
 rw[e2,Z];simp only[Region.lexB,Bool.and_eq_true]at I;have H:wpAny P .any l.dropLast.toArray (JO P l.toArray o Q) l.dropLast.length (Array.replicate l.dropLast.length false) a w.drew:=by
  refine wpAny_of_quiet (C:=fun w'=> ∃n,w'=w.drewN n) (Q:=fun q=> ∀w',(∃n,w'=w.drewN n)→wpList P l.toArray Q [o] q w') (fun _ w' J h=>h w' J) _ _ _ _ ⟨1,rfl⟩ ?_;have:=wpAnyQ_lex (P:=P) (C:=fun w'=> ∃n,w'=w.drewN n) (md:= .any) (ops:=l.dropLast.toArray) (Q:=fun q=> ∀w',(∃n,w'=w.drewN n)→wpList P l.toArray Q [o] q w') I.1 l.dropLast 0 (Array.replicate l.dropLast.length false) a (by simp) (by simpa using I.2) h
  simpa using this
 rw[O]at H⊢;refine jU (by simpa using X) (by simpa using hb) _ _ _ _ (by simp) ?_ H;intro j oj U G;exfalso
 have D:=(Ai U).1;simp only[List.size_toArray]at D;rw[Lh,Array.getElem?_replicate,if_pos D]at G
 cases G
end Go.Proofs.YthjoojnlnlmljaaGreat
