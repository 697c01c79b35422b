/- A region that draws its order, whose last operation waits for all others: the others in whatever order, then the last. No condition. -/
import Derived.Test.YthjoojnlnlmljaaGreatP00
import Derived.OrdersHeld
import Derived.Deep.RegionHeld3
import Derived.BigQuiet
import Derived.Deep.QuietTactic
set_option linter.all false
set_option maxRecDepth 100000
set_option maxHeartbeats 8000000
namespace Go.Proofs.YthjoojnlnlmljaaGreat
open Go
def JW (P:Program)(ops:Array Oper)(o:Oper)(Q:Exit→Act→World→Prop):Exit→Act→World→Prop
 | .normal,a,w=>wpList P ops Q [o] a w
 | e,a,w=>Q e a w
theorem qie {P:Program}{ops:Array Oper}{o D:Oper}{Q:Exit→Act→World→Prop}{K:Act→World→Prop}{a:Act}{w:World}(h:D.wp P a w K (JW P ops o Q)):D.wp P a w K Q:=by
 unfold Oper.wp at*;generalize (execOp a.eval D).run P w=r at*
 cases r with
 | ok n w'=>
  cases n<;>simp only[Oper.upon]at h⊢ <;>
   first
    | exact h
    | exact Calls.mono h (fun e G q=>by cases e<;>exact q)
    | exact Rows.mono h (fun _ _ q=>q)
 | halt x w'=>cases x<;>simp only[Oper.upon]at h⊢ <;>exact h
def qcK (md:Region.Mode)(l:List Oper):Bool:=
 (List.range l.length).all fun j=>match l[j]? with
  | some oj=>oj.guard.isNone&&oj.after.all fun e=> !Region.binds md e||decide (e.on<j)
  | none=>true
section
variable {P:Program} {md:Region.Mode} {init:Array Oper} {o:Oper} {Q:Exit→Act→World→Prop}
theorem ZG (h:qcK md init.toList=true){j:Nat}{D:Oper}(J:init[j]? =some D):D.guard=none∧ ∀e∈D.after,Region.binds md e=true→e.on<j:=by
 have G:j<init.size:=(Ai J).1;have r:=List.all_eq_true.1 h j (List.mem_range.2 (by simpa using G));have I:init.toList[j]? =some D:=by simpa using J
 rw[I]at r;simp only[Bool.and_eq_true,Option.isNone_iff_eq_none,Array.all_eq_true_iff_forall_mem,Bool.or_eq_true,Bool.not_eq_true',decide_eq_true_eq]at r;refine⟨r.1,fun e U O=>?_⟩;rcases r.2 e U with q|q
 ·rw[O]at q;cases q
 ·exact q
theorem qbQ (h:qcK md init.toList=true){q:Array Bool}(Y:q.size=init.size)(U:Region.ready md init q=[]): ∀j,j<init.size→q.getD j true=true:=by
 intro j;induction j using Nat.strongRecOn with
 | _ j ih=>
  intro X
  cases hl:q.getD j true with
  | true=>rfl
  | false=>
   obtain⟨D,J⟩: ∃D,init[j]? =some D:=⟨init[j],by simp[X]⟩;have G:j∈Region.ready md init q:=mem_ready.2 ⟨hl,D,J,fun e V O=>by
    have I:=(ZG h J).2 e V O;have:=ih e.on I (by omega)
    have r:e.on<q.size:=by omega
    simp only[Lh,Array.getElem?_eq_getElem r,Option.getD_some]at this⊢;exact this⟩
   rw[U]at G;cases G
theorem yo {l:Array Bool}{b d:Bool}{j:Nat}(h:j<l.size):(l.push b).getD j d=l.getD j d:=by
 simp only[Lh,Array.getElem?_push,if_neg (show ¬j=l.size by omega)]
theorem zd {l:Array Bool}{j:Nat}(h:j<l.size):l.getD j false=l.getD j true:=by
 simp only[Lh,Array.getElem?_eq_getElem h,Option.getD_some]
end
def qit (md:Region.Mode)(o:Oper):List Nat:=(o.after.toList.filter fun e=>Region.binds md e).map (·.on)
def qdi (md:Region.Mode)(init:List Oper):Nat→List Nat→List Nat
 | 0,s=>s
 | i+1,s=>qdi md init i (if s.contains i then(match init[i]? with|some oi=>qit md oi|none=>[])++s else s)
def qab (md:Region.Mode)(init:List Oper)(o:Oper)(n:Nat):Bool:=
 o.guard.isNone&&((List.range n).all fun j=>(qdi md init n (qit md o)).contains j)&&o.after.all fun e=> !Region.binds md e||decide (e.on<n)
def qib (md:Region.Mode)(init:Array Oper)(listed:Array Bool):Prop:= ∀i oi,init[i]? =some oi→listed.getD i true=true→ ∀e∈oi.after,Region.binds md e=true→e.on<init.size→listed.getD e.on true=true
section
variable {P:Program} {md:Region.Mode} {init:Array Oper} {o:Oper} {Q:Exit→Act→World→Prop}
theorem qd6 {md:Region.Mode}{o:Oper}{j:Nat}(h:j∈qit md o): ∃e∈o.after,Region.binds md e=true∧e.on=j:=by
 obtain⟨e,D,rfl⟩:=List.mem_map.1 h;obtain⟨r,q⟩:=List.mem_filter.1 D;exact⟨e,by simpa using r,q,rfl⟩
theorem JI {q:Array Bool}(D:qib md init q)(Y:q.size=init.size): ∀(i:Nat) (s:List Nat),(∀j∈s,q.getD j true=true)→ ∀j∈qdi md init.toList i s,q.getD j true=true
 | 0,s,h=>h
 | i+1,s,h=>by
  refine JI D Y i _ ?_;split
  ·rename_i O;have V:=h i (by simpa using O);intro j r;rcases List.mem_append.1 r with r|r
   ·split at r
    ·rename_i J I;obtain⟨e,X,U,rfl⟩:=qd6 r;by_cases G:e.on<init.size
     ·exact D i J (by simpa using I) V e X U G
     ·rw[Lh,Array.getElem?_eq_none (by omega)];rfl
    ·cases r
   ·exact h j r
  ·exact h
theorem jf (O:qab md init.toList o init.size=true):o.guard=none∧(∀e∈o.after,Region.binds md e=true→e.on<init.size)∧
  ∀q:Array Bool,qib md init q→q.size=init.size→(∀e∈o.after,Region.binds md e=true→q.getD e.on true=true)→ ∀j,j<init.size→q.getD j true=true:=by
 simp only[qab,Bool.and_eq_true,Option.isNone_iff_eq_none,Array.all_eq_true_iff_forall_mem,Bool.or_eq_true,Bool.not_eq_true',decide_eq_true_eq,List.all_eq_true,List.mem_range]at O;obtain⟨⟨X,r⟩,J⟩:=O;refine⟨X,fun e G D=>?_,fun q V Y U j I=>?_⟩
 ·rcases J e G with h|h
  ·rw[D]at h;cases h
  ·exact h
 ·refine JI V Y init.size (qit md o) (fun j I=>?_) j (by simpa using r j I);obtain⟨e,G,D,rfl⟩:=qd6 I;exact U e G D
theorem qbD (ho:qab md init.toList o init.size=true)(hb:qcK md init.toList=true){q:Array Bool}(hs:q.size=init.size)(r: ∀j,j<init.size→q.getD j true=true){a:Act}{w:World}(h:wpList P (init.push o) Q [o] a w):
  ∀fuel,wpAny P md (init.push o) Q (fuel+1) (q.push false) a w:=by
 obtain⟨hg,V, -⟩:=jf ho;have D:(init.push o)[init.size]? =some o:=by simp
 have X:init.size∈Region.ready md (init.push o) (q.push false):=mem_ready.2 ⟨by simp[Lh,←hs],o,D,fun e he Z=>by
  have h2:=V e he Z;rw[yo (by omega),zd (by omega)];exact r _ h2⟩
 have hw:Region.wanted o (yielded (init.push o) a.tmps)=true:=by simp[Region.wanted,hg]
 have G:Region.ready md (init.push o) ((q.push false).setIfInBounds init.size true)=[]:=by
  rw[List.eq_nil_iff_forall_not_mem];intro i O;obtain⟨I,oi,J, -⟩:=mem_ready.1 O;have aa:i<init.size+1:=by have:=(Ai J).1;simpa using this
  by_cases e:i=init.size
  ·subst e;simp[Lh,hs]at I
  ·rw[getD_set_ne true (Ne.symm e),yo (by omega),r i (by omega)]at I
   cases I
 intro fuel;refine⟨fun h0=>(by rw[h0]at X;cases X),fun i O=>?_⟩;have ab:i=init.size:=by
  obtain⟨I,oi,J, -⟩:=mem_ready.1 O;have aa:i<init.size+1:=by have:=(Ai J).1;simpa using this
  by_cases e:i=init.size
  ·exact e
  ·rw[yo (by omega),r i (by omega)]at I;cases I
 subst ab;unfold wpOp;rw[D];simp only[hw,if_true];have U:=h;unfold wpList at U;simp only[hw,if_true]at U;refine U.imp (Oper.wp_mono fun a' w' Y=>?_) id
 cases fuel with
 | zero=>exact⟨G,Y⟩
 | succ f=>exact⟨fun _=>Y,by rw[G];simp⟩
theorem Jg (ho:qab md init.toList o init.size=true)(U:qcK md init.toList=true): ∀(fuel:Nat) (q:Array Bool) (a:Act) (w:World),q.size=init.size→qib md init q→
  wpAny P md init (JW P (init.push o) o Q) fuel q a w→wpAny P md (init.push o) Q (fuel+1) (q.push false) a w
 | 0,q,a,w,hs,hD,H=>qbD ho U hs (qbQ U hs H.1) H.2 0
 | fuel+1,q,a,w,hs,hD,H=>by
  by_cases hr:Region.ready md init q=[]
  ·exact qbD ho U hs (qbQ U hs hr) (H.1 hr) (fuel+1)
  ·obtain⟨hg, -,aj⟩:=jf ho;have key: ∀i,i∈Region.ready md (init.push o) (q.push false)↔i∈Region.ready md init q:=by
    intro i;constructor
    ·intro hi;obtain⟨O,X,r,I⟩:=mem_ready.1 hi;have ap:i<init.size+1:=by have:=(Ai r).1;simpa using this
     by_cases e:i=init.size
     ·exfalso
      subst e;obtain rfl:o=X:=by simpa using r
      obtain⟨j,hj⟩:=List.exists_mem_of_ne_nil _ hr;obtain⟨Z,oj,Y, -⟩:=mem_ready.1 hj;have an:j<init.size:=(Ai Y).1;have h4:=aj q hD hs (fun V D ae=>by
       have h4:=I V D ae;have ao:=(jf ho).2.1 V D ae;rw[yo (by omega),zd (by omega)]at h4;exact h4) j an
      rw[Z]at h4
      cases h4
     ·have aa:i<init.size:=by omega
      have J:init[i]? =some X:=by
       rw[Array.getElem?_push,if_neg e]at r;exact r
      refine mem_ready.2 ⟨by rw[yo (by omega)]at O;exact O,X,J,fun V D G=>?_⟩;have Z:=I V D G;have ai:=(ZG U J).2 V D G;rw[yo (by omega)]at Z;exact Z
    ·intro hi;obtain⟨O,X,r,I⟩:=mem_ready.1 hi;have aa:i<init.size:=(Ai r).1;refine mem_ready.2 ⟨by rw[yo (by omega)];exact O,X,by rw[Array.getElem?_push,if_neg (by omega)];exact r,fun V D G=>?_⟩;have ai:=(ZG U r).2 V D G;rw[yo (by omega)];exact I V D G
   obtain⟨j,hj⟩:=List.exists_mem_of_ne_nil _ hr;refine⟨fun h0=>(by have:=(key j).2 hj;rw[h0]at this;cases this),fun i hi=>?_⟩;have ab:=(key i).1 hi;have O:=H.2 i ab;obtain⟨-,X,r, -⟩:=mem_ready.1 ab;have aa:i<init.size:=(Ai r).1;have J:(init.push o)[i]? =some X:=by rw[Array.getElem?_push,if_neg (by omega)];exact r
   have al:=(ZG U r).1;have ah:(q.push false).setIfInBounds i true=(q.setIfInBounds i true).push false:=by
    apply Array.ext'
    simp only[Array.toList_setIfInBounds,Array.toList_push];rw[List.set_append_left _ _ (by simpa using(show i<q.size by omega))]
   unfold wpOp at O⊢;rw[r]at O;rw[J];simp only[Region.wanted,al,if_true]at O⊢;refine O.imp (fun I=>qie (Oper.wp_mono (fun a' w' Z=>?_) I)) (fun I=>⟨I.1,I.2⟩);rw[ah];refine Jg ho U fuel _ a' w' (by simpa using hs) ?_ Z;intro j oj Y ac e he G ak;by_cases ad:e.on=i
   ·rw[ad,Lh,Array.getElem?_setIfInBounds];simp[hs,aa]
   ·rw[getD_set_ne true (Ne.symm ad)];by_cases af:j=i
    ·subst af;obtain⟨-,am,ag,h6⟩:=mem_ready.1 ab;obtain rfl:am=oj:=Option.some.inj (ag.symm.trans Y);have:=h6 e he G
     rw[zd (by omega)]at this;exact this
    ·rw[getD_set_ne true (Ne.symm af)]at ac;exact hD j oj Y ac e he G ak
end
theorem qk {P:Program}{Z:Nat}{Q:Exit→Act→World→Prop}{a:Act}{w:World}{l:List Oper}{o:Oper}{init:List Oper}{n:Nat}(Y:l.dropLast=init)(hl:l.drop init.length=[o])(hn:init.length=n)(U:P.follows .mixedOrders=true)
  (ho:qab .any init o n=true) (X:qcK .any init=true) (G:Region.lexB .any init.toArray=true)
  (h:wpQuiet P init.toArray (fun w'=> ∃n,w'=w.drewN n) (fun q=> ∀w',(∃n,w'=w.drewN n)→wpList P l.toArray Q [o] q w') init a):(Code.region Z l.toArray true).wp P Q a w:=by
 subst Y;subst hn;have e:l=l.dropLast++[o]:=by
  rw[←hl,List.length_dropLast,List.dropLast_eq_take];exact(List.take_append_drop _ _).symm
 refine wp_region_any U ?_;have I:l.toArray=l.dropLast.toArray.push o:=by rw[e];simp
 have V:l.toArray.size=l.dropLast.length+1:=by rw[I];simp
 have e3:Array.replicate (l.dropLast.length+1) false=(Array.replicate l.dropLast.length false).push false:=by
  rw[Array.replicate_succ]
 rw[V,e3];simp only[Region.lexB,Bool.and_eq_true]at G;have H:wpAny P .any l.dropLast.toArray (JW P l.toArray o Q) l.dropLast.length (Array.replicate l.dropLast.length false) a w.drew:=by
  refine wpAny_of_quiet (C:=fun w'=> ∃n,w'=w.drewN n) (Q:=fun q=> ∀w',(∃n,w'=w.drewN n)→wpList P l.toArray Q [o] q w') (fun _ w' J h=>h w' J) _ _ _ _ ⟨1,rfl⟩ ?_;have:=wpAnyQ_lex (P:=P) (C:=fun w'=> ∃n,w'=w.drewN n) (md:= .any) (ops:=l.dropLast.toArray) (Q:=fun q=> ∀w',(∃n,w'=w.drewN n)→wpList P l.toArray Q [o] q w') G.1 l.dropLast 0 (Array.replicate l.dropLast.length false) a (by simp) (by simpa using G.2) h
  simpa using this
 rw[I]at H⊢;refine Jg (by simpa using ho) (by simpa using X) _ _ _ _ (by simp) ?_ H;intro j oj O r;exfalso
 have D:=(Ai O).1;simp only[List.size_toArray]at D;rw[Lh,Array.getElem?_replicate,if_pos D]at r
 cases r
end Go.Proofs.YthjoojnlnlmljaaGreat
