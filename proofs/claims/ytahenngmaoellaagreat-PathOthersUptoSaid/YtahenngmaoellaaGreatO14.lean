/- Lemmas. No condition. -/
import Derived.Test.YtahenngmaoellaaGreatP00
import Derived.Deep.RegionHeld3
import Derived.BigQuiet
set_option linter.all false
set_option maxRecDepth 100000
set_option maxHeartbeats 0
namespace Go.Proofs.YtahenngmaoellaaGreat
open Go
variable{P:Program}{o:Oper}{Q:Exit->Act->World->Prop}{a:Act}{j:Nat}{q l:Array Bool}
def qan (P:Program)(ops:Array Oper)(o:Oper)(Q:Exit->Act->World->Prop):Exit->Act->World->Prop
 | .normal,a,w=>wpList P ops Q [o] a w
 | e,a,w=>Q e a w
theorem qjx {ops:Array Oper}{q:Oper}{K:Act->World->Prop}{w:World}(h:q.wp P a w K (qan P ops o Q)):q.wp P a w K Q:=by
 unfold Oper.wp at*;generalize (execOp a.eval q).run P w=r at*
 cases r with
 | ok n w'=>
  cases n<;>simp only[Oper.upon]at h⊢ <;>
   first
    | exact h
    | exact Calls.mono h (fun e G D=>by cases e<;>exact D)
    | exact Rows.mono h (fun _ _ D=>D)
 | halt x w'=>cases x<;>simp only[Oper.upon]at h⊢ <;>exact h
def qdx (md:Region.Mode)(l:List Oper):Bool:=
 (List.range l.length).all fun j=>match l[j]? with
  | some oj=>oj.guard.isNone&&oj.after.all fun e=> !Region.binds md e||decide (e.on<j)
  | none=>true
section
variable {P:Program} {md:Region.Mode} {init:Array Oper} {o:Oper} {Q:Exit->Act->World->Prop}
theorem Z6 (h:qdx md init.toList=true){r:Oper}(J:init[j]? =some r):r.guard=none/\ ∀e∈r.after,Region.binds md e=true->e.on<j:=by
 have G:j<init.size:=(Ai J).1;have q:=List.all_eq_true.1 h j (List.mem_range.2 (by simpa using G));have I:init.toList[j]? =some r:=by simpa using J
 rw[I]at q;simp only[Bool.and_eq_true,Option.isNone_iff_eq_none,Array.all_eq_true_iff_forall_mem,Bool.or_eq_true,Bool.not_eq_true',decide_eq_true_eq]at q;refine⟨q.1,fun e S O=>?_⟩;rcases q.2 e S with D|D
 ·rw[O]at D;cases D
 ·exact D
theorem qcw (h:qdx md init.toList=true)(X:q.size=init.size)(S:Region.ready md init q=[]): ∀j,j<init.size->q.getD j true=true:=by
 intro j;induction j using Nat.strongRecOn with
 | _ j ih=>
  intro U
  cases hl:q.getD j true with
  | true=>rfl
  | false=>
   obtain⟨D,J⟩: ∃D,init[j]? =some D:=⟨init[j],by simp[U]⟩;have I:j∈Region.ready md init q:=mem_ready.2 ⟨hl,D,J,fun e V O=>by
    have G:=(Z6 h J).2 e V O;have:=ih e.on G (by omega)
    have r:e.on<q.size:=by omega
    simp only[Lh,Array.getElem?_eq_getElem r,Option.getD_some]at this⊢;exact this⟩
   rw[S]at I;cases I
theorem yA {b d:Bool}(h:j<l.size):(l.push b).getD j d=l.getD j d:=by
 simp only[Lh,Array.getElem?_push,if_neg (show ¬j=l.size by omega)]
theorem zK (h:j<l.size):l.getD j false=l.getD j true:=by
 simp only[Lh,Array.getElem?_eq_getElem h,Option.getD_some]
end
def qjS (md:Region.Mode)(o:Oper):List Nat:=(o.after.toList.filter fun e=>Region.binds md e).map (·.on)
def qd9 (md:Region.Mode)(init:List Oper):Nat->List Nat->List Nat
 | 0,s=>s
 | i+1,s=>qd9 md init i (if s.contains i then(match init[i]? with|some oi=>qjS md oi|none=>[])++s else s)
def qaE (md:Region.Mode)(init:List Oper)(o:Oper)(n:Nat):Bool:=
 o.guard.isNone&&((List.range n).all fun j=>(qd9 md init n (qjS md o)).contains j)&&o.after.all fun e=> !Region.binds md e||decide (e.on<n)
def qjw (md:Region.Mode)(init:Array Oper)(listed:Array Bool):Prop:= ∀i oi,init[i]? =some oi->listed.getD i true=true-> ∀e∈oi.after,Region.binds md e=true->e.on<init.size->listed.getD e.on true=true
section
variable {P:Program} {md:Region.Mode} {init:Array Oper} {o:Oper} {Q:Exit->Act->World->Prop}
theorem qfc {md:Region.Mode}(h:j∈qjS md o): ∃e∈o.after,Region.binds md e=true/\e.on=j:=by
 obtain⟨e,D,rfl⟩:=List.mem_map.1 h;obtain⟨q,r⟩:=List.mem_filter.1 D;exact⟨e,by simpa using q,r,rfl⟩
theorem J7 {q:Array Bool}(I:qjw md init q)(J:q.size=init.size): ∀(i:Nat) (s:List Nat),(∀j∈s,q.getD j true=true)-> ∀j∈qd9 md init.toList i s,q.getD j true=true
 | 0,s,h=>h
 | i+1,s,h=>by
  refine J7 I J i _ ?_;split
  ·rename_i S;have hi:=h i (by simpa using S);intro j r;rcases List.mem_append.1 r with r|r
   ·split at r
    ·rename_i O G;obtain⟨e,U,V,rfl⟩:=qfc r;by_cases D:e.on<init.size
     ·exact I i O (by simpa using G) hi e U V D
     ·rw[Lh,Array.getElem?_eq_none (by omega)];rfl
    ·cases r
   ·exact h j r
  ·exact h
theorem jG (O:qaE md init.toList o init.size=true):o.guard=none/\(∀e∈o.after,Region.binds md e=true->e.on<init.size)/\
  ∀q:Array Bool,qjw md init q->q.size=init.size->(∀e∈o.after,Region.binds md e=true->q.getD e.on true=true)-> ∀j,j<init.size->q.getD j true=true:=by
 simp only[qaE,Bool.and_eq_true,Option.isNone_iff_eq_none,Array.all_eq_true_iff_forall_mem,Bool.or_eq_true,Bool.not_eq_true',decide_eq_true_eq,List.all_eq_true,List.mem_range]at O;obtain⟨⟨U,I⟩,J⟩:=O;refine⟨U,fun e G r=>?_,fun q X V S j D=>?_⟩
 ·rcases J e G with h|h
  ·rw[r]at h;cases h
  ·exact h
 ·refine J7 X V init.size (qjS md o) (fun j D=>?_) j (by simpa using I j D);obtain⟨e,G,r,rfl⟩:=qfc D;exact S e G r
theorem qcf (ho:qaE md init.toList o init.size=true)(hb:qdx md init.toList=true)(Z:q.size=init.size)(r: ∀j,j<init.size->q.getD j true=true){w:World}(h:wpList P (init.push o) Q [o] a w):
  ∀fuel,wpAny P md (init.push o) Q (fuel+1) (q.push false) a w:=by
 obtain⟨hg,aa, -⟩:=jG ho;have G:(init.push o)[init.size]? =some o:=by simp
 have S:init.size∈Region.ready md (init.push o) (q.push false):=mem_ready.2 ⟨by simp[Lh,<-Z],o,G,fun e he U=>by
  have h2:=aa e he U;rw[yA (by omega),zK (by omega)];exact r _ h2⟩
 have V:Region.wanted o (yielded (init.push o) a.tmps)=true:=by simp[Region.wanted,hg]
 have D:Region.ready md (init.push o) ((q.push false).setIfInBounds init.size true)=[]:=by
  rw[List.eq_nil_iff_forall_not_mem];intro i hi;obtain⟨I,oi,J, -⟩:=mem_ready.1 hi;have ab:i<init.size+1:=by have:=(Ai J).1;simpa using this
  by_cases e:i=init.size
  ·subst e;simp[Lh,Z]at I
  ·rw[getD_set_ne true (Ne.symm e),yA (by omega),r i (by omega)]at I
   cases I
 intro fuel;refine⟨fun h0=>(by rw[h0]at S;cases S),fun i hi=>?_⟩;have X:i=init.size:=by
  obtain⟨I,oi,J, -⟩:=mem_ready.1 hi;have ab:i<init.size+1:=by have:=(Ai J).1;simpa using this
  by_cases e:i=init.size
  ·exact e
  ·rw[yA (by omega),r i (by omega)]at I;cases I
 subst X;unfold wpOp;rw[G];simp only[V,if_true];have O:=h;unfold wpList at O;simp only[V,if_true]at O;refine O.imp (Oper.wp_mono fun a' w' Y=>?_) id
 cases fuel with
 | zero=>exact⟨D,Y⟩
 | succ f=>exact⟨fun _=>Y,by rw[D];simp⟩
theorem JE (ho:qaE md init.toList o init.size=true)(U:qdx md init.toList=true): ∀(fuel:Nat) (q:Array Bool) (a:Act) (w:World),q.size=init.size->qjw md init q->
  wpAny P md init (qan P (init.push o) o Q) fuel q a w->wpAny P md (init.push o) Q (fuel+1) (q.push false) a w
 | 0,q,a,w,hs,hD,H=>qcf ho U hs (qcw U hs H.1) H.2 0
 | fuel+1,q,a,w,hs,hD,H=>by
  by_cases hr:Region.ready md init q=[]
  ·exact qcf ho U hs (qcw U hs hr) (H.1 hr) (fuel+1)
  ·obtain⟨hg, -,ai⟩:=jG ho;have key: ∀i,i∈Region.ready md (init.push o) (q.push false)↔i∈Region.ready md init q:=by
    intro i;constructor
    ·intro hi;obtain⟨J,V,r,I⟩:=mem_ready.1 hi;have ao:i<init.size+1:=by have:=(Ai r).1;simpa using this
     by_cases e:i=init.size
     ·exfalso
      subst e;obtain rfl:o=V:=by simpa using r
      obtain⟨j,hj⟩:=List.exists_mem_of_ne_nil _ hr;obtain⟨Y,oj,X, -⟩:=mem_ready.1 hj;have aj:j<init.size:=(Ai X).1;have h4:=ai q hD hs (fun S G ae=>by
       have h4:=I S G ae;have an:=(jG ho).2.1 S G ae;rw[yA (by omega),zK (by omega)]at h4;exact h4) j aj
      rw[Y]at h4
      cases h4
     ·have Z:i<init.size:=by omega
      have O:init[i]? =some V:=by
       rw[Array.getElem?_push,if_neg e]at r;exact r
      refine mem_ready.2 ⟨by rw[yA (by omega)]at J;exact J,V,O,fun S G D=>?_⟩;have Y:=I S G D;have af:=(Z6 U O).2 S G D;rw[yA (by omega)]at Y;exact Y
    ·intro hi;obtain⟨J,V,r,I⟩:=mem_ready.1 hi;have Z:i<init.size:=(Ai r).1;refine mem_ready.2 ⟨by rw[yA (by omega)];exact J,V,by rw[Array.getElem?_push,if_neg (by omega)];exact r,fun S G D=>?_⟩;have af:=(Z6 U r).2 S G D;rw[yA (by omega)];exact I S G D
   obtain⟨j,hj⟩:=List.exists_mem_of_ne_nil _ hr;refine⟨fun h0=>(by have:=(key j).2 hj;rw[h0]at this;cases this),fun i hi=>?_⟩;have aa:=(key i).1 hi;have J:=H.2 i aa;obtain⟨-,V,r, -⟩:=mem_ready.1 aa;have Z:i<init.size:=(Ai r).1;have O:(init.push o)[i]? =some V:=by rw[Array.getElem?_push,if_neg (by omega)];exact r
   have al:=(Z6 U r).1;have ah:(q.push false).setIfInBounds i true=(q.setIfInBounds i true).push false:=by
    apply Array.ext'
    simp only[Array.toList_setIfInBounds,Array.toList_push];rw[List.set_append_left _ _ (by simpa using(show i<q.size by omega))]
   unfold wpOp at J⊢;rw[r]at J;rw[O];simp only[Region.wanted,al,if_true]at J⊢;refine J.imp (fun I=>qjx (Oper.wp_mono (fun a' w' Y=>?_) I)) (fun I=>⟨I.1,I.2⟩);rw[ah];refine JE ho U fuel _ a' w' (by simpa using hs) ?_ Y;intro j oj X ac e he D am;by_cases ad:e.on=i
   ·rw[ad,Lh,Array.getElem?_setIfInBounds];simp[hs,Z]
   ·rw[getD_set_ne true (Ne.symm ad)];by_cases ab:j=i
    ·subst ab;obtain⟨-,ak,ag,h6⟩:=mem_ready.1 aa;obtain rfl:ak=oj:=Option.some.inj (ag.symm.trans X);have:=h6 e he D
     rw[zK (by omega)]at this;exact this
    ·rw[getD_set_ne true (Ne.symm ab)]at ac;exact hD j oj X ac e he D am
end
theorem qk {Z:Nat}{w:World}{l:List Oper}{init:List Oper}{n:Nat}(hi:l.dropLast=init)(Y:l.drop init.length=[o])(S:init.length=n)(U:P.follows .mixedOrders=true)
  (X:qaE .any init o n=true) (hb:qdx .any init=true) (G:Region.lexB .any init.toArray=true)
  (h:wpQuiet P init.toArray (fun w'=> ∃n,w'=w.drewN n) (fun q=> ∀w',(∃n,w'=w.drewN n)->wpList P l.toArray Q [o] q w') init a):(Code.region Z l.toArray true).wp P Q a w:=by
 subst hi;subst S;have e:l=l.dropLast++[o]:=by
  rw[<-Y,List.length_dropLast,List.dropLast_eq_take];exact(List.take_append_drop _ _).symm
 refine wp_region_any U ?_;have J:l.toArray=l.dropLast.toArray.push o:=by rw[e];simp
 have e2:l.toArray.size=l.dropLast.length+1:=by rw[J];simp
 have V:Array.replicate (l.dropLast.length+1) false=(Array.replicate l.dropLast.length false).push false:=by
  rw[Array.replicate_succ]
 rw[e2,V];simp only[Region.lexB,Bool.and_eq_true]at G;have H:wpAny P .any l.dropLast.toArray (qan P l.toArray o Q) l.dropLast.length (Array.replicate l.dropLast.length false) a w.drew:=by
  refine wpAny_of_quiet (C:=fun w'=> ∃n,w'=w.drewN n) (Q:=fun q=> ∀w',(∃n,w'=w.drewN n)->wpList P l.toArray Q [o] q w') (fun _ w' I h=>h w' I) _ _ _ _ ⟨1,rfl⟩ ?_;have:=wpAnyQ_lex (P:=P) (C:=fun w'=> ∃n,w'=w.drewN n) (md:= .any) (ops:=l.dropLast.toArray) (Q:=fun q=> ∀w',(∃n,w'=w.drewN n)->wpList P l.toArray Q [o] q w') G.1 l.dropLast 0 (Array.replicate l.dropLast.length false) a (by simp) (by simpa using G.2) h
  simpa using this
 rw[J]at H⊢;refine JE (by simpa using X) (by simpa using hb) _ _ _ _ (by simp) ?_ H;intro j oj O D;exfalso
 have r:=(Ai O).1;simp only[List.size_toArray]at r;rw[Lh,Array.getElem?_replicate,if_pos r]at D
 cases D
