/- A region that draws its order, whose last operation waits for all others: the others in whatever order, then the last. No condition. -/
import Derived.Test.YtdndeffmlhaipaaGreatDoorQ00
import Derived.OrdersHeld
import Derived.Deep.RegionHeld3
import Derived.BigQuiet
import Derived.Deep.QuietTactic
set_option linter.all false
set_option maxRecDepth 100000
set_option maxHeartbeats 8000000
namespace Go.Proofs.YtdndeffmlhaipaaGreatDoor
open Go
def ZV (P:Program)(ops:Array Oper)(o:Oper)(Q:Exit→Act→World→Prop):Exit→Act→World→Prop
 | .normal,a,w=>wpList P ops Q [o] a w
 | e,a,w=>Q e a w
theorem qeD {P:Program}{ops:Array Oper}{o oj:Oper}{Q:Exit→Act→World→Prop}{K:Act→World→Prop}{a:Act}{w:World}(h:oj.wp P a w K (ZV P ops o Q)):oj.wp P a w K Q:=by
 unfold Oper.wp at*;generalize (execOp a.eval oj).run P w=r at*
 cases r with
 | ok n w'=>
  cases n<;>simp only[Oper.upon]at h⊢ <;>
   first
    | exact h
    | exact Calls.mono h (fun e w'' he=>by cases e<;>exact he)
    | exact Rows.mono h (fun _ _ he=>he)
 | halt x w'=>cases x<;>simp only[Oper.upon]at h⊢ <;>exact h
def qao (md:Region.Mode)(l:List Oper):Bool:=
 (List.range l.length).all fun j=>match l[j]? with
  | some oj=>oj.guard.isNone&&oj.after.all fun e=> !Region.binds md e||decide (e.on<j)
  | none=>true
section
variable {P:Program} {md:Region.Mode} {init:Array Oper} {o:Oper} {Q:Exit→Act→World→Prop}
theorem YR (h:qao md init.toList=true){j:Nat}{oj:Oper}(hj:init[j]? =some oj):oj.guard=none∧ ∀e∈oj.after,Region.binds md e=true→e.on<j:=by
 have hlt:j<init.size:=(Ai hj).1;have h1:=List.all_eq_true.1 h j (List.mem_range.2 (by simpa using hlt));have hj':init.toList[j]? =some oj:=by simpa using hj
 rw[hj']at h1;simp only[Bool.and_eq_true,Option.isNone_iff_eq_none,Array.all_eq_true_iff_forall_mem,Bool.or_eq_true,Bool.not_eq_true',decide_eq_true_eq]at h1;refine⟨h1.1,fun e he hb=>?_⟩;rcases h1.2 e he with h2|h2
 ·rw[hb]at h2;cases h2
 ·exact h2
theorem JA (h:qao md init.toList=true){listed:Array Bool}(hs:listed.size=init.size)(hr:Region.ready md init listed=[]): ∀j,j<init.size→listed.getD j true=true:=by
 intro j;induction j using Nat.strongRecOn with
 | _ j ih=>
  intro hj
  cases hl:listed.getD j true with
  | true=>rfl
  | false=>
   obtain⟨oj,ho⟩: ∃oj,init[j]? =some oj:=⟨init[j],by simp[hj]⟩;have hm:j∈Region.ready md init listed:=mem_ready.2 ⟨hl,oj,ho,fun e he hb=>by
    have hlt:=(YR h ho).2 e he hb;have:=ih e.on hlt (by omega)
    have hlt':e.on<listed.size:=by omega
    simp only[Lh,Array.getElem?_eq_getElem hlt',Option.getD_some]at this⊢;exact this⟩
   rw[hr]at hm;cases hm
theorem Qn {l:Array Bool}{b d:Bool}{j:Nat}(h:j<l.size):(l.push b).getD j d=l.getD j d:=by
 simp only[Lh,Array.getElem?_push,if_neg (show ¬j=l.size by omega)]
theorem yL {l:Array Bool}{j:Nat}(h:j<l.size):l.getD j false=l.getD j true:=by
 simp only[Lh,Array.getElem?_eq_getElem h,Option.getD_some]
end
def qeS (md:Region.Mode)(o:Oper):List Nat:=(o.after.toList.filter fun e=>Region.binds md e).map (·.on)
def qaI (md:Region.Mode)(init:List Oper):Nat→List Nat→List Nat
 | 0,s=>s
 | i+1,s=>qaI md init i (if s.contains i then(match init[i]? with|some oi=>qeS md oi|none=>[])++s else s)
def Z5 (md:Region.Mode)(init:List Oper)(o:Oper)(n:Nat):Bool:=
 o.guard.isNone&&((List.range n).all fun j=>(qaI md init n (qeS md o)).contains j)&&o.after.all fun e=> !Region.binds md e||decide (e.on<n)
def qeA (md:Region.Mode)(init:Array Oper)(listed:Array Bool):Prop:= ∀i oi,init[i]? =some oi→listed.getD i true=true→ ∀e∈oi.after,Region.binds md e=true→e.on<init.size→listed.getD e.on true=true
section
variable {P:Program} {md:Region.Mode} {init:Array Oper} {o:Oper} {Q:Exit→Act→World→Prop}
theorem qbd {md:Region.Mode}{o:Oper}{j:Nat}(h:j∈qeS md o): ∃e∈o.after,Region.binds md e=true∧e.on=j:=by
 obtain⟨e,he,rfl⟩:=List.mem_map.1 h;obtain⟨h1,h2⟩:=List.mem_filter.1 he;exact⟨e,by simpa using h1,h2,rfl⟩
theorem ZJ {listed:Array Bool}(hD:qeA md init listed)(hs:listed.size=init.size): ∀(i:Nat) (s:List Nat),(∀j∈s,listed.getD j true=true)→ ∀j∈qaI md init.toList i s,listed.getD j true=true
 | 0,s,h=>h
 | i+1,s,h=>by
  refine ZJ hD hs i _ ?_;split
  ·rename_i hc;have hi:=h i (by simpa using hc);intro j hj;rcases List.mem_append.1 hj with hj|hj
   ·split at hj
    ·rename_i oi hoi;obtain⟨e,he,hb,rfl⟩:=qbd hj;by_cases hlt:e.on<init.size
     ·exact hD i oi (by simpa using hoi) hi e he hb hlt
     ·rw[Lh,Array.getElem?_eq_none (by omega)];rfl
    ·cases hj
   ·exact h j hj
  ·exact h
theorem zl (ho:Z5 md init.toList o init.size=true):o.guard=none∧(∀e∈o.after,Region.binds md e=true→e.on<init.size)∧
  ∀listed:Array Bool,qeA md init listed→listed.size=init.size→(∀e∈o.after,Region.binds md e=true→listed.getD e.on true=true)→ ∀j,j<init.size→listed.getD j true=true:=by
 simp only[Z5,Bool.and_eq_true,Option.isNone_iff_eq_none,Array.all_eq_true_iff_forall_mem,Bool.or_eq_true,Bool.not_eq_true',decide_eq_true_eq,List.all_eq_true,List.mem_range]at ho;obtain⟨⟨hg,hall⟩,hon⟩:=ho;refine⟨hg,fun e he hb=>?_,fun listed hD hs hl j hj=>?_⟩
 ·rcases hon e he with h|h
  ·rw[hb]at h;cases h
  ·exact h
 ·refine ZJ hD hs init.size (qeS md o) (fun j hj=>?_) j (by simpa using hall j hj);obtain⟨e,he,hb,rfl⟩:=qbd hj;exact hl e he hb
theorem Jj (ho:Z5 md init.toList o init.size=true)(hb:qao md init.toList=true){listed:Array Bool}(hs:listed.size=init.size)(hall: ∀j,j<init.size→listed.getD j true=true){a:Act}{w:World}(h:wpList P (init.push o) Q [o] a w):
  ∀fuel,wpAny P md (init.push o) Q (fuel+1) (listed.push false) a w:=by
 obtain⟨hg,hon, -⟩:=zl ho;have hlast:(init.push o)[init.size]? =some o:=by simp
 have hn:init.size∈Region.ready md (init.push o) (listed.push false):=mem_ready.2 ⟨by simp[Lh,←hs],o,hlast,fun e he hbd=>by
  have h2:=hon e he hbd;rw[Qn (by omega),yL (by omega)];exact hall _ h2⟩
 have hw:Region.wanted o (yielded (init.push o) a.tmps)=true:=by simp[Region.wanted,hg]
 have hdone:Region.ready md (init.push o) ((listed.push false).setIfInBounds init.size true)=[]:=by
  rw[List.eq_nil_iff_forall_not_mem];intro i hi;obtain⟨h1,oi,hoi, -⟩:=mem_ready.1 hi;have hlt:i<init.size+1:=by have:=(Ai hoi).1;simpa using this
  by_cases e:i=init.size
  ·subst e;simp[Lh,hs]at h1
  ·rw[getD_set_ne true (Ne.symm e),Qn (by omega),hall i (by omega)]at h1
   cases h1
 intro fuel;refine⟨fun h0=>(by rw[h0]at hn;cases hn),fun i hi=>?_⟩;have hi':i=init.size:=by
  obtain⟨h1,oi,hoi, -⟩:=mem_ready.1 hi;have hlt:i<init.size+1:=by have:=(Ai hoi).1;simpa using this
  by_cases e:i=init.size
  ·exact e
  ·rw[Qn (by omega),hall i (by omega)]at h1;cases h1
 subst hi';unfold wpOp;rw[hlast];simp only[hw,if_true];have h':=h;unfold wpList at h';simp only[hw,if_true]at h';refine h'.imp (Oper.wp_mono fun a' w' hq=>?_) id
 cases fuel with
 | zero=>exact⟨hdone,hq⟩
 | succ f=>exact⟨fun _=>hq,by rw[hdone];simp⟩
theorem Zi (ho:Z5 md init.toList o init.size=true)(hb:qao md init.toList=true): ∀(fuel:Nat) (listed:Array Bool) (a:Act) (w:World),listed.size=init.size→qeA md init listed→
  wpAny P md init (ZV P (init.push o) o Q) fuel listed a w→wpAny P md (init.push o) Q (fuel+1) (listed.push false) a w
 | 0,listed,a,w,hs,hD,H=>Jj ho hb hs (JA hb hs H.1) H.2 0
 | fuel+1,listed,a,w,hs,hD,H=>by
  by_cases hr:Region.ready md init listed=[]
  ·exact Jj ho hb hs (JA hb hs hr) (H.1 hr) (fuel+1)
  ·obtain⟨hg, -,hall⟩:=zl ho;have key: ∀i,i∈Region.ready md (init.push o) (listed.push false)↔i∈Region.ready md init listed:=by
    intro i;constructor
    ·intro hi;obtain⟨h1,oi,hoi,h2⟩:=mem_ready.1 hi;have hlt:i<init.size+1:=by have:=(Ai hoi).1;simpa using this
     by_cases e:i=init.size
     ·exfalso
      subst e;obtain rfl:o=oi:=by simpa using hoi
      obtain⟨j,hj⟩:=List.exists_mem_of_ne_nil _ hr;obtain⟨h3,oj,hoj, -⟩:=mem_ready.1 hj;have hjl:j<init.size:=(Ai hoj).1;have h4:=hall listed hD hs (fun e' he' hbe=>by
       have h4:=h2 e' he' hbe;have hlt2:=(zl ho).2.1 e' he' hbe;rw[Qn (by omega),yL (by omega)]at h4;exact h4) j hjl
      rw[h3]at h4
      cases h4
     ·have hil:i<init.size:=by omega
      have hoi':init[i]? =some oi:=by
       rw[Array.getElem?_push,if_neg e]at hoi;exact hoi
      refine mem_ready.2 ⟨by rw[Qn (by omega)]at h1;exact h1,oi,hoi',fun e' he' hbd=>?_⟩;have h3:=h2 e' he' hbd;have hlt':=(YR hb hoi').2 e' he' hbd;rw[Qn (by omega)]at h3;exact h3
    ·intro hi;obtain⟨h1,oi,hoi,h2⟩:=mem_ready.1 hi;have hil:i<init.size:=(Ai hoi).1;refine mem_ready.2 ⟨by rw[Qn (by omega)];exact h1,oi,by rw[Array.getElem?_push,if_neg (by omega)];exact hoi,fun e' he' hbd=>?_⟩;have hlt':=(YR hb hoi).2 e' he' hbd;rw[Qn (by omega)];exact h2 e' he' hbd
   obtain⟨j,hj⟩:=List.exists_mem_of_ne_nil _ hr;refine⟨fun h0=>(by have:=(key j).2 hj;rw[h0]at this;cases this),fun i hi=>?_⟩;have hi0:=(key i).1 hi;have h1:=H.2 i hi0;obtain⟨-,oi,hoi, -⟩:=mem_ready.1 hi0;have hil:i<init.size:=(Ai hoi).1;have hoi':(init.push o)[i]? =some oi:=by rw[Array.getElem?_push,if_neg (by omega)];exact hoi
   have hgi:=(YR hb hoi).1;have hset:(listed.push false).setIfInBounds i true=(listed.setIfInBounds i true).push false:=by
    apply Array.ext'
    simp only[Array.toList_setIfInBounds,Array.toList_push];rw[List.set_append_left _ _ (by simpa using(show i<listed.size by omega))]
   unfold wpOp at h1⊢;rw[hoi]at h1;rw[hoi'];simp only[Region.wanted,hgi,if_true]at h1⊢;refine h1.imp (fun h2=>qeD (Oper.wp_mono (fun a' w' h3=>?_) h2)) (fun h2=>⟨h2.1,h2.2⟩);rw[hset];refine Zi ho hb fuel _ a' w' (by simpa using hs) ?_ h3;intro j oj hoj hlj e he hbd hes;by_cases hje:e.on=i
   ·rw[hje,Lh,Array.getElem?_setIfInBounds];simp[hs,hil]
   ·rw[getD_set_ne true (Ne.symm hje)];by_cases hji:j=i
    ·subst hji;obtain⟨-,oi2,hoi2,h6⟩:=mem_ready.1 hi0;obtain rfl:oi2=oj:=Option.some.inj (hoi2.symm.trans hoj);have:=h6 e he hbd
     rw[yL (by omega)]at this;exact this
    ·rw[getD_set_ne true (Ne.symm hji)]at hlj;exact hD j oj hoj hlj e he hbd hes
end
theorem qe {P:Program}{id:Nat}{Q:Exit→Act→World→Prop}{a:Act}{w:World}{l:List Oper}{o:Oper}{init:List Oper}{n:Nat}(hi:l.dropLast=init)(hl:l.drop init.length=[o])(hn:init.length=n)(hm:P.follows .mixedOrders=true)
  (ho:Z5 .any init o n=true) (hb:qao .any init=true) (hB:Region.lexB .any init.toArray=true)
  (h:wpQuiet P init.toArray (fun w'=> ∃n,w'=w.drewN n) (fun a'=> ∀w',(∃n,w'=w.drewN n)→wpList P l.toArray Q [o] a' w') init a):(Code.region id l.toArray true).wp P Q a w:=by
 subst hi;subst hn;have e:l=l.dropLast++[o]:=by
  rw[←hl,List.length_dropLast,List.dropLast_eq_take];exact(List.take_append_drop _ _).symm
 refine wp_region_any hm ?_;have e1:l.toArray=l.dropLast.toArray.push o:=by rw[e];simp
 have e2:l.toArray.size=l.dropLast.length+1:=by rw[e1];simp
 have e3:Array.replicate (l.dropLast.length+1) false=(Array.replicate l.dropLast.length false).push false:=by
  rw[Array.replicate_succ]
 rw[e2,e3];simp only[Region.lexB,Bool.and_eq_true]at hB;have H:wpAny P .any l.dropLast.toArray (ZV P l.toArray o Q) l.dropLast.length (Array.replicate l.dropLast.length false) a w.drew:=by
  refine wpAny_of_quiet (C:=fun w'=> ∃n,w'=w.drewN n) (Q:=fun a'=> ∀w',(∃n,w'=w.drewN n)→wpList P l.toArray Q [o] a' w') (fun _ w' hw' h=>h w' hw') _ _ _ _ ⟨1,rfl⟩ ?_;have:=wpAnyQ_lex (P:=P) (C:=fun w'=> ∃n,w'=w.drewN n) (md:= .any) (ops:=l.dropLast.toArray) (Q:=fun a'=> ∀w',(∃n,w'=w.drewN n)→wpList P l.toArray Q [o] a' w') hB.1 l.dropLast 0 (Array.replicate l.dropLast.length false) a (by simp) (by simpa using hB.2) h
  simpa using this
 rw[e1]at H⊢;refine Zi (by simpa using ho) (by simpa using hb) _ _ _ _ (by simp) ?_ H;intro j oj hoj hlj;exfalso
 have hjs:=(Ai hoj).1;simp only[List.size_toArray]at hjs;rw[Lh,Array.getElem?_replicate,if_pos hjs]at hlj
 cases hlj
end Go.Proofs.YtdndeffmlhaipaaGreatDoor
