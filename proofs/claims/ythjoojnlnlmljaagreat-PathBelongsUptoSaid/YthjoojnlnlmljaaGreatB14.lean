/- A region that draws its order, whose last operation waits for all others: the others in whatever order, then the last. No condition. -/
import Derived.Test.YthjoojnlnlmljaaGreatP00
import Derived.OrdersHeld
import Derived.Deep.RegionHeld3
import Derived.BigQuiet
import Derived.Deep.QuietTactic
set_option linter.all false
set_option maxRecDepth 100000
set_option maxHeartbeats 8000000
namespace Go.Proofs.YthjoojnlnlmljaaGreat
open Go
def J8 (P:Program)(ops:Array Oper)(o:Oper)(Q:Exit→Act→World→Prop):Exit→Act→World→Prop
 | .normal,a,w=>wpList P ops Q [o] a w
 | e,a,w=>Q e a w
theorem qjb {P:Program}{ops:Array Oper}{o q:Oper}{Q:Exit→Act→World→Prop}{K:Act→World→Prop}{a:Act}{w:World}(h:q.wp P a w K (J8 P ops o Q)):q.wp P a w K Q:=by
 unfold Oper.wp at*;generalize (execOp a.eval q).run P w=r at*
 cases r with
 | ok n w'=>
  cases n<;>simp only[Oper.upon]at h⊢ <;>
   first
    | exact h
    | exact Calls.mono h (fun e G D=>by cases e<;>exact D)
    | exact Rows.mono h (fun _ _ D=>D)
 | halt x w'=>cases x<;>simp only[Oper.upon]at h⊢ <;>exact h
def qdh (md:Region.Mode)(l:List Oper):Bool:=
 (List.range l.length).all fun j=>match l[j]? with
  | some oj=>oj.guard.isNone&&oj.after.all fun e=> !Region.binds md e||decide (e.on<j)
  | none=>true
section
variable {P:Program} {md:Region.Mode} {init:Array Oper} {o:Oper} {Q:Exit→Act→World→Prop}
theorem ZS (h:qdh md init.toList=true){j:Nat}{r:Oper}(G:init[j]? =some r):r.guard=none∧ ∀e∈r.after,Region.binds md e=true→e.on<j:=by
 have J:j<init.size:=(Ai G).1;have q:=List.all_eq_true.1 h j (List.mem_range.2 (by simpa using J));have I:init.toList[j]? =some r:=by simpa using G
 rw[I]at q;simp only[Bool.and_eq_true,Option.isNone_iff_eq_none,Array.all_eq_true_iff_forall_mem,Bool.or_eq_true,Bool.not_eq_true',decide_eq_true_eq]at q;refine⟨q.1,fun e O S=>?_⟩;rcases q.2 e O with D|D
 ·rw[S]at D;cases D
 ·exact D
theorem qcd (h:qdh md init.toList=true){q:Array Bool}(X:q.size=init.size)(O:Region.ready md init q=[]): ∀j,j<init.size→q.getD j true=true:=by
 intro j;induction j using Nat.strongRecOn with
 | _ j ih=>
  intro S
  cases hl:q.getD j true with
  | true=>rfl
  | false=>
   obtain⟨r,I⟩: ∃r,init[j]? =some r:=⟨init[j],by simp[S]⟩;have G:j∈Region.ready md init q:=mem_ready.2 ⟨hl,r,I,fun e U V=>by
    have J:=(ZS h I).2 e U V;have:=ih e.on J (by omega)
    have D:e.on<q.size:=by omega
    simp only[Lh,Array.getElem?_eq_getElem D,Option.getD_some]at this⊢;exact this⟩
   rw[O]at G;cases G
theorem yt {l:Array Bool}{b d:Bool}{j:Nat}(h:j<l.size):(l.push b).getD j d=l.getD j d:=by
 simp only[Lh,Array.getElem?_push,if_neg (show ¬j=l.size by omega)]
theorem zA {l:Array Bool}{j:Nat}(h:j<l.size):l.getD j false=l.getD j true:=by
 simp only[Lh,Array.getElem?_eq_getElem h,Option.getD_some]
end
def qjw (md:Region.Mode)(o:Oper):List Nat:=(o.after.toList.filter fun e=>Region.binds md e).map (·.on)
def qdS (md:Region.Mode)(init:List Oper):Nat→List Nat→List Nat
 | 0,s=>s
 | i+1,s=>qdS md init i (if s.contains i then(match init[i]? with|some oi=>qjw md oi|none=>[])++s else s)
def qas (md:Region.Mode)(init:List Oper)(o:Oper)(n:Nat):Bool:=
 o.guard.isNone&&((List.range n).all fun j=>(qdS md init n (qjw md o)).contains j)&&o.after.all fun e=> !Region.binds md e||decide (e.on<n)
def qja (md:Region.Mode)(init:Array Oper)(listed:Array Bool):Prop:= ∀i oi,init[i]? =some oi→listed.getD i true=true→ ∀e∈oi.after,Region.binds md e=true→e.on<init.size→listed.getD e.on true=true
section
variable {P:Program} {md:Region.Mode} {init:Array Oper} {o:Oper} {Q:Exit→Act→World→Prop}
theorem qeP {md:Region.Mode}{o:Oper}{j:Nat}(h:j∈qjw md o): ∃e∈o.after,Region.binds md e=true∧e.on=j:=by
 obtain⟨e,D,rfl⟩:=List.mem_map.1 h;obtain⟨q,r⟩:=List.mem_filter.1 D;exact⟨e,by simpa using q,r,rfl⟩
theorem JT {q:Array Bool}(I:qja md init q)(J:q.size=init.size): ∀(i:Nat) (s:List Nat),(∀j∈s,q.getD j true=true)→ ∀j∈qdS md init.toList i s,q.getD j true=true
 | 0,s,h=>h
 | i+1,s,h=>by
  refine JT I J i _ ?_;split
  ·rename_i V;have hi:=h i (by simpa using V);intro j r;rcases List.mem_append.1 r with r|r
   ·split at r
    ·rename_i S D;obtain⟨e,O,U,rfl⟩:=qeP r;by_cases G:e.on<init.size
     ·exact I i S (by simpa using D) hi e O U G
     ·rw[Lh,Array.getElem?_eq_none (by omega)];rfl
    ·cases r
   ·exact h j r
  ·exact h
theorem js (O:qas md init.toList o init.size=true):o.guard=none∧(∀e∈o.after,Region.binds md e=true→e.on<init.size)∧
  ∀q:Array Bool,qja md init q→q.size=init.size→(∀e∈o.after,Region.binds md e=true→q.getD e.on true=true)→ ∀j,j<init.size→q.getD j true=true:=by
 simp only[qas,Bool.and_eq_true,Option.isNone_iff_eq_none,Array.all_eq_true_iff_forall_mem,Bool.or_eq_true,Bool.not_eq_true',decide_eq_true_eq,List.all_eq_true,List.mem_range]at O;obtain⟨⟨X,D⟩,J⟩:=O;refine⟨X,fun e G I=>?_,fun q V S U j r=>?_⟩
 ·rcases J e G with h|h
  ·rw[I]at h;cases h
  ·exact h
 ·refine JT V S init.size (qjw md o) (fun j r=>?_) j (by simpa using D j r);obtain⟨e,G,I,rfl⟩:=qeP r;exact U e G I
theorem qbX (ho:qas md init.toList o init.size=true)(hb:qdh md init.toList=true){q:Array Bool}(Z:q.size=init.size)(r: ∀j,j<init.size→q.getD j true=true){a:Act}{w:World}(h:wpList P (init.push o) Q [o] a w):
  ∀fuel,wpAny P md (init.push o) Q (fuel+1) (q.push false) a w:=by
 obtain⟨hg,U, -⟩:=js ho;have D:(init.push o)[init.size]? =some o:=by simp
 have Y:init.size∈Region.ready md (init.push o) (q.push false):=mem_ready.2 ⟨by simp[Lh,←Z],o,D,fun e he S=>by
  have h2:=U e he S;rw[yt (by omega),zA (by omega)];exact r _ h2⟩
 have hw:Region.wanted o (yielded (init.push o) a.tmps)=true:=by simp[Region.wanted,hg]
 have G:Region.ready md (init.push o) ((q.push false).setIfInBounds init.size true)=[]:=by
  rw[List.eq_nil_iff_forall_not_mem];intro i hi;obtain⟨I,oi,J, -⟩:=mem_ready.1 hi;have X:i<init.size+1:=by have:=(Ai J).1;simpa using this
  by_cases e:i=init.size
  ·subst e;simp[Lh,Z]at I
  ·rw[getD_set_ne true (Ne.symm e),yt (by omega),r i (by omega)]at I
   cases I
 intro fuel;refine⟨fun h0=>(by rw[h0]at Y;cases Y),fun i hi=>?_⟩;have aa:i=init.size:=by
  obtain⟨I,oi,J, -⟩:=mem_ready.1 hi;have X:i<init.size+1:=by have:=(Ai J).1;simpa using this
  by_cases e:i=init.size
  ·exact e
  ·rw[yt (by omega),r i (by omega)]at I;cases I
 subst aa;unfold wpOp;rw[D];simp only[hw,if_true];have O:=h;unfold wpList at O;simp only[hw,if_true]at O;refine O.imp (Oper.wp_mono fun a' w' V=>?_) id
 cases fuel with
 | zero=>exact⟨G,V⟩
 | succ f=>exact⟨fun _=>V,by rw[G];simp⟩
theorem Jr (Z:qas md init.toList o init.size=true)(U:qdh md init.toList=true): ∀(fuel:Nat) (q:Array Bool) (a:Act) (w:World),q.size=init.size→qja md init q→
  wpAny P md init (J8 P (init.push o) o Q) fuel q a w→wpAny P md (init.push o) Q (fuel+1) (q.push false) a w
 | 0,q,a,w,hs,hD,H=>qbX Z U hs (qcd U hs H.1) H.2 0
 | fuel+1,q,a,w,hs,hD,H=>by
  by_cases hr:Region.ready md init q=[]
  ·exact qbX Z U hs (qcd U hs hr) (H.1 hr) (fuel+1)
  ·obtain⟨hg, -,ai⟩:=js Z;have key: ∀i,i∈Region.ready md (init.push o) (q.push false)↔i∈Region.ready md init q:=by
    intro i;constructor
    ·intro hi;obtain⟨I,V,r,J⟩:=mem_ready.1 hi;have ap:i<init.size+1:=by have:=(Ai r).1;simpa using this
     by_cases e:i=init.size
     ·exfalso
      subst e;obtain rfl:o=V:=by simpa using r
      obtain⟨j,hj⟩:=List.exists_mem_of_ne_nil _ hr;obtain⟨Y,oj,X, -⟩:=mem_ready.1 hj;have ak:j<init.size:=(Ai X).1;have h4:=ai q hD hs (fun S G ad=>by
       have h4:=J S G ad;have ao:=(js Z).2.1 S G ad;rw[yt (by omega),zA (by omega)]at h4;exact h4) j ak
      rw[Y]at h4
      cases h4
     ·have ab:i<init.size:=by omega
      have O:init[i]? =some V:=by
       rw[Array.getElem?_push,if_neg e]at r;exact r
      refine mem_ready.2 ⟨by rw[yt (by omega)]at I;exact I,V,O,fun S G D=>?_⟩;have Y:=J S G D;have ah:=(ZS U O).2 S G D;rw[yt (by omega)]at Y;exact Y
    ·intro hi;obtain⟨I,V,r,J⟩:=mem_ready.1 hi;have ab:i<init.size:=(Ai r).1;refine mem_ready.2 ⟨by rw[yt (by omega)];exact I,V,by rw[Array.getElem?_push,if_neg (by omega)];exact r,fun S G D=>?_⟩;have ah:=(ZS U r).2 S G D;rw[yt (by omega)];exact J S G D
   obtain⟨j,hj⟩:=List.exists_mem_of_ne_nil _ hr;refine⟨fun h0=>(by have:=(key j).2 hj;rw[h0]at this;cases this),fun i hi=>?_⟩;have aa:=(key i).1 hi;have I:=H.2 i aa;obtain⟨-,V,r, -⟩:=mem_ready.1 aa;have ab:i<init.size:=(Ai r).1;have O:(init.push o)[i]? =some V:=by rw[Array.getElem?_push,if_neg (by omega)];exact r
   have am:=(ZS U r).1;have aj:(q.push false).setIfInBounds i true=(q.setIfInBounds i true).push false:=by
    apply Array.ext'
    simp only[Array.toList_setIfInBounds,Array.toList_push];rw[List.set_append_left _ _ (by simpa using(show i<q.size by omega))]
   unfold wpOp at I⊢;rw[r]at I;rw[O];simp only[Region.wanted,am,if_true]at I⊢;refine I.imp (fun J=>qjb (Oper.wp_mono (fun a' w' Y=>?_) J)) (fun J=>⟨J.1,J.2⟩);rw[aj];refine Jr Z U fuel _ a' w' (by simpa using hs) ?_ Y;intro j oj X ae e he D al;by_cases ac:e.on=i
   ·rw[ac,Lh,Array.getElem?_setIfInBounds];simp[hs,ab]
   ·rw[getD_set_ne true (Ne.symm ac)];by_cases af:j=i
    ·subst af;obtain⟨-,an,ag,h6⟩:=mem_ready.1 aa;obtain rfl:an=oj:=Option.some.inj (ag.symm.trans X);have:=h6 e he D
     rw[zA (by omega)]at this;exact this
    ·rw[getD_set_ne true (Ne.symm af)]at ae;exact hD j oj X ae e he D al
end
theorem qk {P:Program}{U:Nat}{Q:Exit→Act→World→Prop}{a:Act}{w:World}{l:List Oper}{o:Oper}{init:List Oper}{n:Nat}(hi:l.dropLast=init)(V:l.drop init.length=[o])(hn:init.length=n)(S:P.follows .mixedOrders=true)
  (Y:qas .any init o n=true) (Z:qdh .any init=true) (G:Region.lexB .any init.toArray=true)
  (h:wpQuiet P init.toArray (fun w'=> ∃n,w'=w.drewN n) (fun q=> ∀w',(∃n,w'=w.drewN n)→wpList P l.toArray Q [o] q w') init a):(Code.region U l.toArray true).wp P Q a w:=by
 subst hi;subst hn;have e:l=l.dropLast++[o]:=by
  rw[←V,List.length_dropLast,List.dropLast_eq_take];exact(List.take_append_drop _ _).symm
 refine wp_region_any S ?_;have J:l.toArray=l.dropLast.toArray.push o:=by rw[e];simp
 have X:l.toArray.size=l.dropLast.length+1:=by rw[J];simp
 have e3:Array.replicate (l.dropLast.length+1) false=(Array.replicate l.dropLast.length false).push false:=by
  rw[Array.replicate_succ]
 rw[X,e3];simp only[Region.lexB,Bool.and_eq_true]at G;have H:wpAny P .any l.dropLast.toArray (J8 P l.toArray o Q) l.dropLast.length (Array.replicate l.dropLast.length false) a w.drew:=by
  refine wpAny_of_quiet (C:=fun w'=> ∃n,w'=w.drewN n) (Q:=fun q=> ∀w',(∃n,w'=w.drewN n)→wpList P l.toArray Q [o] q w') (fun _ w' I h=>h w' I) _ _ _ _ ⟨1,rfl⟩ ?_;have:=wpAnyQ_lex (P:=P) (C:=fun w'=> ∃n,w'=w.drewN n) (md:= .any) (ops:=l.dropLast.toArray) (Q:=fun q=> ∀w',(∃n,w'=w.drewN n)→wpList P l.toArray Q [o] q w') G.1 l.dropLast 0 (Array.replicate l.dropLast.length false) a (by simp) (by simpa using G.2) h
  simpa using this
 rw[J]at H⊢;refine Jr (by simpa using Y) (by simpa using Z) _ _ _ _ (by simp) ?_ H;intro j oj O r;exfalso
 have D:=(Ai O).1;simp only[List.size_toArray]at D;rw[Lh,Array.getElem?_replicate,if_pos D]at r
 cases r
end Go.Proofs.YthjoojnlnlmljaaGreat
