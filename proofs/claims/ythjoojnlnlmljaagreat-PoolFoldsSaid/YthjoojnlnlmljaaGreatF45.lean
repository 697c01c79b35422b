/- The programs of a pool, by the program. No condition. -/
import Derived.Test.YthjoojnlnlmljaaGreatF44
import Derived.Test.YthjoojnlnlmljaaGreatF13
import Derived.BigQuiet
import Derived.Deep.QuietTactic
set_option linter.all false
set_option maxRecDepth 100000
set_option maxHeartbeats 8000000
namespace Go.Proofs.YthjoojnlnlmljaaGreat
open Go.ChangeShapes Go.WideShapes Go.ChangeAt Go.RowKit Go.Joins
open Go.Lib (hid)
attribute [local go_sem] Oper.semAt_some
structure InstV where
  op:Int
  a:Int
  b:Int
  c:Int
def InstV.val (i:InstV):Value:= .agg #[.int .i64 i.op,.int .i64 i.a,.int .i64 i.b,.int .i64 i.c]
def qbZ (L:List InstV):List Value:=L.flatMap fun i=>[.int .i64 i.op,.int .i64 i.a,.int .i64 i.b,.int .i64 i.c]
def IntsAt (w:World)(v:Value)(L:List Int):Prop:= ∃b,v= .slice (some ⟨b,0,none⟩) L.length L.length∧w.heap[b]? =some (.cells (L.map fun z=>Value.int .i64 z).toArray 3 (0,0))
def InstsAt (w:World)(v:Value)(L:List InstV):Prop:= ∃b,v= .slice (some ⟨b,0,none⟩) L.length L.length∧w.heap[b]? =some (.cells (qbZ L).toArray 243 (0,0))
theorem zw {w w':World}{b:Nat}{o:Obj}(h:w.heap[b]? =some o)(D:Below w.heap.size w w'):w'.heap[b]? =some o:=(D.block b (Ai h).1).trans h
theorem IntsAt.below {w w':World}{v:Value}{L:List Int}(h:IntsAt w v L)(o:Below w.heap.size w w'):IntsAt w' v L:=by
  obtain⟨b,e,h⟩:=h;exact⟨b,e,zw h o⟩
theorem InstsAt.below {w w':World}{v:Value}{L:List InstV}(h:InstsAt w v L)(o:Below w.heap.size w w'):InstsAt w' v L:=by
  obtain⟨b,e,h⟩:=h;exact⟨b,e,zw h o⟩
theorem yw {w:World}{v:Value}{L:List Int}(h:IntsAt w v L): ∃b o,v= .slice (some ⟨b,0,none⟩) L.length o∧w.heap[b]? =some (Obj.cells (L.map fun z=>Value.int .i64 z).toArray 3 (0,0)):=by
  obtain⟨b,e,h⟩:=h;exact⟨b,_,e,h⟩
inductive GK where
  | ints (l:List Int)
  | val (v:Value)
  | insts (l:List InstV)
def GK.holds:GK→Value→World→Prop
  | .ints l,v,W=>IntsAt W v l
  | .val u,v,_=>v=u
  | .insts l,v,W=>InstsAt W v l
theorem GK.below {g:GK}{v:Value}{W W':World}(h:g.holds v W)(o:Below W.heap.size W W'):g.holds v W':=by
  cases g with
  | ints l=>exact IntsAt.below h o
  | val u=>exact h
  | insts l=>exact InstsAt.below h o
def JR (L:List GK)(i:Nat)(v:Value)(W:World):Prop:=match L[i]? with|some g=>g.holds v W|none=>True
theorem Qg (L:List GK){W W':World}(o:Below W.heap.size W W')(i:Nat): ∀j u,j≠i→JR L j u W→JR L j u W':=by
  intro j u _ h;unfold JR at*;split at h
  · exact GK.below h o
  · trivial
theorem Ql (L:List GK){W:World}(o:Obj)(i:Nat): ∀j u,j≠i→JR L j u W→JR L j u (W.alloc o):=Qg L (Br.alloc Nl _) i
def Z3 (p:Nat→Oper→Prop):Nat→List Oper→Prop
  | _,[]=>True
  | n,o::l=>p n o∧Z3 p (n+1) l
theorem qv {p:Nat→Oper→Prop}{n:Nat}{o:Oper}{l:List Oper}(h:p n o)(D:Z3 p (n+1) l):Z3 p n (o::l):=⟨h,D⟩
theorem qdr {p:Nat→Oper→Prop}{n:Nat}:Z3 p n []:=trivial
theorem qaT {p:Nat→Oper→Prop}: ∀(l:List Oper) (n:Nat),Z3 p n l→ ∀i o,l[i]? =some o→p (n+i) o
  | [],_,_,i,o,hi=>by simp at hi
  | _::_,n,h,0,o,hi=>by simp at hi;subst hi;exact h.1
  | _::l,n,h,i+1,o,hi=>by
    have:=qaT l (n+1) h.2 i o (by simpa using hi)
    rw[show n+(i+1)=n+1+i by omega];exact this
theorem qcv {p:Nat→Oper→Prop}{l:List Oper}(h:Z3 p 0 l): ∀i o,l[i]? =some o→p i o:=fun i o D=>by
  have:=qaT l 0 h i o D
  rwa[Nat.zero_add]at this
theorem qhT {ops:List Oper}{G:Nat→Value→World→Prop}(h:(ops.all fun o=>o.dst.isSome)=true): ∀i o v W,ops[i]? =some o→o.dst=none→G i v W→G i undef W:=fun i o v W I D=>by
  have:=List.all_eq_true.1 h o (List.mem_of_getElem? I)
  rw[D]at this;cases this
structure Inv6 (w:World)(bx:Nat)(k:Int)(w2 W:World):Prop where
  below:Below w2.heap.size w2 W
  size:bx+1<w2.heap.size
  cell:w2.cell? ⟨bx,0,none⟩=some (.int .i64 k)
namespace Inv6
variable {w:World} {bx:Nat} {k:Int} {w2 W W':World}
theorem facts (h:Inv6 w bx k w2 W):W.cell? ⟨bx,0,none⟩=some (.int .i64 k)∧bx+1<W.heap.size:=
  ⟨(h.below.cell (p:=⟨bx,0,none⟩) (show bx<w2.heap.size by have:=h.size;omega)).trans h.cell,by have:=h.size;have:=h.below.size;omega⟩
theorem next (h:Inv6 w bx k w2 W)(o:Below W.heap.size W W'):Inv6 w bx k w2 W':=⟨h.below.trans (o.mono h.below.size),h.size,h.cell⟩
theorem alloc (h:Inv6 w bx k w2 W)(o:Obj):Inv6 w bx k w2 (W.alloc o):=h.next (Br.alloc Nl _)
end Inv6
def qh3:List InstV:=[⟨6,0,3,6⟩,⟨12,3,4,0⟩,⟨15,0,4,0⟩,⟨5,2,3,0⟩,⟨5,1,4,0⟩,⟨4,0,0,0⟩,⟨10,0, -1,0⟩,⟨16,0,0,0⟩]
def qh7 (b n:Int):List InstV:=[⟨1,0,0,0⟩,⟨1,1,b,0⟩,⟨1,2,1,0⟩,⟨3,0,1,5⟩,⟨4,0,0,8⟩,⟨5,2,0,0⟩,⟨2,0,2,0⟩,⟨4,0,0,3⟩,⟨1,0,0,0⟩,⟨1,1,n,0⟩,⟨3,0,1,12⟩,⟨4,0,0,17⟩,⟨6,2,3,17⟩,⟨13,3,0,0⟩,⟨5,0,3,0⟩,⟨2,0,2,0⟩,⟨4,0,0,10⟩,⟨7,0,0,0⟩,⟨16,0,0,0⟩]
def qe1:List InstV:=[⟨11,0,0,0⟩,⟨7,1,0,0⟩,⟨16,0,0,0⟩]
def qdO (k:Int):List InstV:=[⟨1,0,0,0⟩,⟨1,1,k,0⟩,⟨1,2,1,0⟩,⟨3,0,1,5⟩,⟨4,0,0,9⟩,⟨10,0,1,0⟩,⟨14,1,0,0⟩,⟨2,0,2,0⟩,⟨4,0,0,3⟩,⟨14,2,0,0⟩,⟨14,3,0,0⟩,⟨6,1,3,14⟩,⟨15,1,3,0⟩,⟨4,0,0,11⟩,⟨16,0,0,0⟩]
def qim (bx:Nat)(k:Int):List GK:=[.ints [0,0],.val (InstV.val ⟨1,0,0,0⟩),.val (.pointer (some ⟨bx,0,none⟩)),.val (.int .i64 k),.ints [1,k],.val (InstV.val ⟨1,1,k,0⟩),.ints [2,1],.val (InstV.val ⟨1,2,1,0⟩),.ints [0,1,5],.val (InstV.val ⟨3,0,1,5⟩),.ints [0,0,9],.val (InstV.val ⟨4,0,0,9⟩),.ints [0,1],.val (InstV.val ⟨10,0,1,0⟩),.ints [1],.val (InstV.val ⟨14,1,0,0⟩),.ints [0,2],.val (InstV.val ⟨2,0,2,0⟩),.ints [0,0,3],.val (InstV.val ⟨4,0,0,3⟩),.ints [2],.val (InstV.val ⟨14,2,0,0⟩),.ints [3],.val (InstV.val ⟨14,3,0,0⟩),.ints [1,3,14],.val (InstV.val ⟨6,1,3,14⟩),.ints [1,3],.val (InstV.val ⟨15,1,3,0⟩),.ints [0,0,11],.val (InstV.val ⟨4,0,0,11⟩),.val (InstV.val ⟨16,0,0,0⟩),.insts (qdO k),.insts (qdO k)]
structure Inv7 (w:World)(k q:Int)(l:List (Value×List InstV))(W:World):Prop where
  below:Below w.heap.size w W
  size:w.heap.size+1<W.heap.size
  box:W.heap[w.heap.size]? =some (.cells #[.int .i64 k,.int .i64 q] 90 (0,0))
  res: ∃c0 c1 c2 c3 c4,W.heap[w.heap.size+1]? =some (.cells #[c0,c1,c2,c3,c4] 202 (0,0))
  held: ∀p∈l,InstsAt W p.1 p.2
namespace Inv7
variable {w:World} {k q:Int} {l:List (Value×List InstV)} {W W':World}
theorem next (h:Inv7 w k q l W)(o:Below W.heap.size W W'):Inv7 w k q l W':=
  ⟨h.below.trans (o.mono h.below.size),by have:=h.size;have:=o.size;omega,zw h.box o,by obtain⟨G,c1,c2,I,J,h⟩:=h.res;exact⟨G,c1,c2,I,J,zw h o⟩,fun p D=>(h.held p D).below o⟩
theorem more (h:Inv7 w k q l W){v:Value}{L:List InstV}(D:InstsAt W v L):Inv7 w k q ((v,L)::l) W:=
  ⟨h.below,h.size,h.box,h.res,fun p o=>by
    rcases List.mem_cons.1 o with rfl|o
    · exact D
    · exact h.held p o⟩
theorem set (h:Inv7 w k q l W){p:Addr}(v:Value)(D:p.block=w.heap.size+1)(J:p.off<5)(I:p.spot=none):Inv7 w k q l (W.setCell p v):=by
  obtain⟨b,o,Y⟩:=p;simp only at D J I
  subst D I;refine⟨h.below.trans ⟨rfl,rfl,rfl,by simp,fun g X=>Below.heap_setCell _ _ _ _ (by show g≠w.heap.size+1;omega)⟩,by simpa using h.size,(Below.heap_setCell _ _ _ _ (by show w.heap.size≠w.heap.size+1;omega)).trans h.box,?_,fun p D=>?_⟩
  · obtain⟨V,c1,c2,O,U,h⟩:=h.res
    have:=block_setCell h (i:=o) v
    rw[this];rcases(show o=0∨o=1∨o=2∨o=3∨o=4 by omega)with rfl|rfl|rfl|rfl|rfl<;>exact⟨_,_,_,_,_,rfl⟩
  · obtain⟨b,e,G⟩:=h.held p D
    obtain⟨V,c1,c2,O,U,S⟩:=h.res;refine⟨b,e,(Below.heap_setCell _ _ _ _ ?_).trans G⟩;show b≠w.heap.size+1
    rintro rfl
    rw[S]at G;simp at G
end Inv7
def zQ (w:World)(l:List Int)(v:Value):Prop:=(l=[]∧v= .slice none 0 0)∨ ∃b cap,v= .slice (some ⟨b,0,none⟩) l.length cap∧w.heap[b]? =some (Obj.cells (l.map fun z=>Value.int .i64 z).toArray 3 (0,0))
theorem Jh {w:World}:zQ w [] (.slice none 0 0):= .inl ⟨rfl,rfl⟩
theorem zp {w:World}{b c:Nat}{x:Int}(h:w.heap[b]? =some (Obj.cells #[.int .i64 x] 3 (0,0))):zQ w [x] (.slice (some ⟨b,0,none⟩) 1 c):= .inr ⟨b,c,rfl,h⟩
theorem zn {w:World}{b c:Nat}{x y:Int}(h:w.heap[b]? =some (Obj.cells #[.int .i64 x,.int .i64 y] 3 (0,0))):zQ w [x,y] (.slice (some ⟨b,0,none⟩) 2 c):= .inr ⟨b,c,rfl,h⟩
theorem zm {w:World}{b c:Nat}{x y z:Int}(h:w.heap[b]? =some (Obj.cells #[.int .i64 x,.int .i64 y,.int .i64 z] 3 (0,0))):zQ w [x,y,z] (.slice (some ⟨b,0,none⟩) 3 c):= .inr ⟨b,c,rfl,h⟩
theorem qil {o:Int}{l:List Int}{v:Value}{w:World}(D:l.length≤3)(h:zQ w l v):Calls Tryz.prog 150 #[.int .i64 o,v] w fun e w'=>e= .returned (.agg #[.int .i64 o,.int .i64 (l.getD 0 0),.int .i64 (l.getD 1 0),.int .i64 (l.getD 2 0)])∧Below w.heap.size w w':=yL o l D v w h
theorem Jd {o:Int}{l:List Int}{v:Value}{w:World}{K:Ending→World→Prop}(h:zQ w l v)(D:l.length≤3)(I: ∀w',Below w.heap.size w w'→K (.returned (.agg #[.int .i64 o,.int .i64 (l.getD 0 0),.int .i64 (l.getD 1 0),.int .i64 (l.getD 2 0)])) w'):Calls Tryz.prog 150 #[.int .i64 o,v] w K:=
  (qil D h).mono fun e w' h=>by obtain⟨rfl,G⟩:=h;exact I w' G
theorem zb {P:Program}{fn:Func}{tmps:Array Value}{W:World}{b s t:Nat}{e O G D J I:Value}{T:TypeId}{fr:Nat×Nat}
    (Z:fn.results= #[.cell s 202,.tmp t]) (V:tmps[s]?.getD undef= .pointer (some ⟨b,0,none⟩)) (S:tmps[t]?.getD undef=e)
    (o:W.heap[b]? =some (Obj.cells #[O,G,D,J,I] T fr)) (X:P=Tryz.prog):
    (results fn tmps).run P W= .ok (.tuple #[.agg #[O,G,D,J,I],e]) W:=by
  subst X;have c0:=Qk o 0;have c1:=Qk o 1;have c2:=Qk o 2;have U:=Qk o 3;have Y:=Qk o 4;simp[results,Z,V,S,go_sem,c0,c1,c2,U,Y]
def SysOk (w:World)(v:Value)(n k q:Int):Prop:=
  ∃b r v0 v1 v2 v3,v= .agg #[.slice (some ⟨b,0,none⟩) 4 4,.slice (some ⟨r,0,none⟩) 3 3,.int .i64 1,.int .i64 0,.int .i64 (yJ k q)]∧
    w.heap[b]? =some (.cells #[v0,v1,v2,v3] 245 (0,0))∧w.heap[r]? =some (.cells #[.int .i64 q,.int .i64 q,.int .i64 (yJ k q)] 3 (0,0))∧
    InstsAt w v0 (qdO k)∧InstsAt w v1 qh3∧InstsAt w v2 (qh7 (yJ k q) n)∧InstsAt w v3 qe1
def zc:Value:= .agg #[.slice none 0 0,.slice none 0 0,.int .i64 0,.int .i64 0,.int .i64 0]
theorem qfJ (n k q:Int)(hp:QX k q)(h0:0≤n)(h1:n≤1024)(w:World):Calls Tryz.prog 118 #[.int .i64 n,.agg #[.int .i64 k,.int .i64 q]] w fun e w'=> ∃v,e= .returned (.tuple #[v,.int .i64 0])∧SysOk w' v n k q∧Below w.heap.size w w':=by
  have HV:=hid (YL k q);rw[show Q0 k q=0 by unfold Q0;rw[if_pos hp]]at HV;obtain⟨bq,ah⟩:=Ex (yJ k q);unfold SysOk;rw[ah]at HV⊢;obtain⟨bx,V⟩:=Ex w.heap.size;go_enter Tryz.func118,Tryz.ntmps118
  go_wp2_with fail
  refine(HV.out _).mono ?_;rintro r w2 ⟨rfl,X⟩;have af:=X.size;simp at af
  have U:Inv6 w bx k w2 w2.drew:=⟨⟨rfl,rfl,rfl,Nat.le_refl _,fun _ _=>rfl⟩,by omega,(X.cell (p:=⟨bx,0,none⟩) (by simp;omega)).trans (by rw[←V];simp)⟩;have ad: ∀W,Below w2.heap.size w2 W→Inv7 w k q [] W:=fun W hW=>by
    have h2:Inv7 w k q [] w2:=⟨qy _ (qy _ X),by omega,(X.block _ (by simp;omega)).trans ((Bh _ _ _ (by simp)).trans (Wn _ _)),⟨_,_,_,_,_,(X.block _ (by simp)).trans (qk _ _ (by simp))⟩,fun p hp=>by cases hp⟩;exact h2.next hW
  have HI:=hid U;have ag:=hid ad;clear U ad;go_wp2_with fail
  refine qbl (ds:=[28,29,30,31,32,33,34,35,36,37,38,39,40,41,42,43,44,45,46,47,48,49,50,51,52,53,54,55,56,57,58,59,8]) (R:=Inv6 w bx k w2) (Good:=JR (qim bx k)) rfl (by decide) (by kernel_rfl) (by kernel_rfl) ?_ ?_ (qhT (by kernel_rfl)) ?_
  case refine_1=>exact HI.out
  case refine_2=>
    refine qcv (p:=_) ?_;refine qv ?_ (qv ?_ (qv ?_ (qv ?_ (qv ?_ (qv ?_ (qv ?_ (qv ?_ (qv ?_ (qv ?_ (qv ?_ (qv ?_ (qv ?_ (qv ?_ (qv ?_ (qv ?_ (qv ?_ (qv ?_ (qv ?_ (qv ?_ (qv ?_ (qv ?_ (qv ?_ (qv ?_ (qv ?_ (qv ?_ (qv ?_ (qv ?_ (qv ?_ (qv ?_ (qv ?_ (qv ?_ (qv ?_ (qdr)))))))))))))))))))))))))))))))))
    · intro x W D o K G
      have S:=D.facts.1;have J:=D.facts.2;clear o;simp only[lay,Act.put,Ls]at G⊢;go_simp
      exact G _ _ (D.alloc _) (Ql _ _ _) ⟨W.heap.size,rfl,Wn _ _⟩
    · intro x W D o K G
      have O:(GK.holds (.ints [0,0]) (x 28) W):=o ⟨0,.data⟩ (by simp) rfl _ rfl;have S:=D.facts.1;have J:=D.facts.2;clear o;simp only[lay,Act.put,Ls]at G⊢;go_simp
      refine(yL 1 [0,0] (by simp) _ W (.inr (yw O))).mono ?_;rintro r w' ⟨rfl,I⟩
      exact G _ _ (D.next I) (Qg _ I _) rfl
    · intro x W D o K G
      have S:=D.facts.1;have J:=D.facts.2;clear o;simp only[lay,Act.put,Ls]at G⊢;go_simp
      exact G _ _ D (fun _ _ _ h=>h) rfl
    · intro x W D o K G
      have O:(GK.holds (.val (.pointer (some ⟨bx,0,none⟩))) (x 30) W):=o ⟨2,.data⟩ (by simp) rfl _ rfl;change x 30=_ at O
      have S:=D.facts.1;have J:=D.facts.2;clear o;simp only[lay,Act.put,Ls,O]at G⊢;go_simp
      exact G _ _ D (fun _ _ _ h=>h) rfl
    · intro x W D o K G
      have O:(GK.holds (.val (.int .i64 k)) (x 31) W):=o ⟨3,.data⟩ (by simp) rfl _ rfl;change x 31=_ at O
      have S:=D.facts.1;have J:=D.facts.2;clear o;simp only[lay,Act.put,Ls,O]at G⊢;go_simp
      exact G _ _ (D.alloc _) (Ql _ _ _) ⟨W.heap.size,rfl,Wn _ _⟩
    · intro x W D o K G
      have O:(GK.holds (.ints [1,k]) (x 32) W):=o ⟨4,.data⟩ (by simp) rfl _ rfl;have S:=D.facts.1;have J:=D.facts.2;clear o;simp only[lay,Act.put,Ls]at G⊢;go_simp
      refine(yL 1 [1,k] (by simp) _ W (.inr (yw O))).mono ?_;rintro r w' ⟨rfl,I⟩
      exact G _ _ (D.next I) (Qg _ I _) rfl
    · intro x W D o K G
      have S:=D.facts.1;have J:=D.facts.2;clear o;simp only[lay,Act.put,Ls]at G⊢;go_simp
      exact G _ _ (D.alloc _) (Ql _ _ _) ⟨W.heap.size,rfl,Wn _ _⟩
    · intro x W D o K G
      have O:(GK.holds (.ints [2,1]) (x 34) W):=o ⟨6,.data⟩ (by simp) rfl _ rfl;have S:=D.facts.1;have J:=D.facts.2;clear o;simp only[lay,Act.put,Ls]at G⊢;go_simp
      refine(yL 1 [2,1] (by simp) _ W (.inr (yw O))).mono ?_;rintro r w' ⟨rfl,I⟩
      exact G _ _ (D.next I) (Qg _ I _) rfl
    · intro x W D o K G
      have S:=D.facts.1;have J:=D.facts.2;clear o;simp only[lay,Act.put,Ls]at G⊢;go_simp
      exact G _ _ (D.alloc _) (Ql _ _ _) ⟨W.heap.size,rfl,Wn _ _⟩
    · intro x W D o K G
      have O:(GK.holds (.ints [0,1,5]) (x 36) W):=o ⟨8,.data⟩ (by simp) rfl _ rfl;have S:=D.facts.1;have J:=D.facts.2;clear o;simp only[lay,Act.put,Ls]at G⊢;go_simp
      refine(yL 3 [0,1,5] (by simp) _ W (.inr (yw O))).mono ?_;rintro r w' ⟨rfl,I⟩
      exact G _ _ (D.next I) (Qg _ I _) rfl
    · intro x W D o K G
      have S:=D.facts.1;have J:=D.facts.2;clear o;simp only[lay,Act.put,Ls]at G⊢;go_simp
      exact G _ _ (D.alloc _) (Ql _ _ _) ⟨W.heap.size,rfl,Wn _ _⟩
    · intro x W D o K G
      have O:(GK.holds (.ints [0,0,9]) (x 38) W):=o ⟨10,.data⟩ (by simp) rfl _ rfl;have S:=D.facts.1;have J:=D.facts.2;clear o;simp only[lay,Act.put,Ls]at G⊢;go_simp
      refine(yL 4 [0,0,9] (by simp) _ W (.inr (yw O))).mono ?_;rintro r w' ⟨rfl,I⟩
      exact G _ _ (D.next I) (Qg _ I _) rfl
    · intro x W D o K G
      have S:=D.facts.1;have J:=D.facts.2;clear o;simp only[lay,Act.put,Ls]at G⊢;go_simp
      exact G _ _ (D.alloc _) (Ql _ _ _) ⟨W.heap.size,rfl,Wn _ _⟩
    · intro x W D o K G
      have O:(GK.holds (.ints [0,1]) (x 40) W):=o ⟨12,.data⟩ (by simp) rfl _ rfl;have S:=D.facts.1;have J:=D.facts.2;clear o;simp only[lay,Act.put,Ls]at G⊢;go_simp
      refine(yL 10 [0,1] (by simp) _ W (.inr (yw O))).mono ?_;rintro r w' ⟨rfl,I⟩
      exact G _ _ (D.next I) (Qg _ I _) rfl
    · intro x W D o K G
      have S:=D.facts.1;have J:=D.facts.2;clear o;simp only[lay,Act.put,Ls]at G⊢;go_simp
      exact G _ _ (D.alloc _) (Ql _ _ _) ⟨W.heap.size,rfl,Wn _ _⟩
    · intro x W D o K G
      have O:(GK.holds (.ints [1]) (x 42) W):=o ⟨14,.data⟩ (by simp) rfl _ rfl;have S:=D.facts.1;have J:=D.facts.2;clear o;simp only[lay,Act.put,Ls]at G⊢;go_simp
      refine(yL 14 [1] (by simp) _ W (.inr (yw O))).mono ?_;rintro r w' ⟨rfl,I⟩
      exact G _ _ (D.next I) (Qg _ I _) rfl
    · intro x W D o K G
      have S:=D.facts.1;have J:=D.facts.2;clear o;simp only[lay,Act.put,Ls]at G⊢;go_simp
      exact G _ _ (D.alloc _) (Ql _ _ _) ⟨W.heap.size,rfl,Wn _ _⟩
    · intro x W D o K G
      have O:(GK.holds (.ints [0,2]) (x 44) W):=o ⟨16,.data⟩ (by simp) rfl _ rfl;have S:=D.facts.1;have J:=D.facts.2;clear o;simp only[lay,Act.put,Ls]at G⊢;go_simp
      refine(yL 2 [0,2] (by simp) _ W (.inr (yw O))).mono ?_;rintro r w' ⟨rfl,I⟩
      exact G _ _ (D.next I) (Qg _ I _) rfl
    · intro x W D o K G
      have S:=D.facts.1;have J:=D.facts.2;clear o;simp only[lay,Act.put,Ls]at G⊢;go_simp
      exact G _ _ (D.alloc _) (Ql _ _ _) ⟨W.heap.size,rfl,Wn _ _⟩
    · intro x W D o K G
      have O:(GK.holds (.ints [0,0,3]) (x 46) W):=o ⟨18,.data⟩ (by simp) rfl _ rfl;have S:=D.facts.1;have J:=D.facts.2;clear o;simp only[lay,Act.put,Ls]at G⊢;go_simp
      refine(yL 4 [0,0,3] (by simp) _ W (.inr (yw O))).mono ?_;rintro r w' ⟨rfl,I⟩
      exact G _ _ (D.next I) (Qg _ I _) rfl
    · intro x W D o K G
      have S:=D.facts.1;have J:=D.facts.2;clear o;simp only[lay,Act.put,Ls]at G⊢;go_simp
      exact G _ _ (D.alloc _) (Ql _ _ _) ⟨W.heap.size,rfl,Wn _ _⟩
    · intro x W D o K G
      have O:(GK.holds (.ints [2]) (x 48) W):=o ⟨20,.data⟩ (by simp) rfl _ rfl;have S:=D.facts.1;have J:=D.facts.2;clear o;simp only[lay,Act.put,Ls]at G⊢;go_simp
      refine(yL 14 [2] (by simp) _ W (.inr (yw O))).mono ?_;rintro r w' ⟨rfl,I⟩
      exact G _ _ (D.next I) (Qg _ I _) rfl
    · intro x W D o K G
      have S:=D.facts.1;have J:=D.facts.2;clear o;simp only[lay,Act.put,Ls]at G⊢;go_simp
      exact G _ _ (D.alloc _) (Ql _ _ _) ⟨W.heap.size,rfl,Wn _ _⟩
    · intro x W D o K G
      have O:(GK.holds (.ints [3]) (x 50) W):=o ⟨22,.data⟩ (by simp) rfl _ rfl;have S:=D.facts.1;have J:=D.facts.2;clear o;simp only[lay,Act.put,Ls]at G⊢;go_simp
      refine(yL 14 [3] (by simp) _ W (.inr (yw O))).mono ?_;rintro r w' ⟨rfl,I⟩
      exact G _ _ (D.next I) (Qg _ I _) rfl
    · intro x W D o K G
      have S:=D.facts.1;have J:=D.facts.2;clear o;simp only[lay,Act.put,Ls]at G⊢;go_simp
      exact G _ _ (D.alloc _) (Ql _ _ _) ⟨W.heap.size,rfl,Wn _ _⟩
    · intro x W D o K G
      have O:(GK.holds (.ints [1,3,14]) (x 52) W):=o ⟨24,.data⟩ (by simp) rfl _ rfl;have S:=D.facts.1;have J:=D.facts.2;clear o;simp only[lay,Act.put,Ls]at G⊢;go_simp
      refine(yL 6 [1,3,14] (by simp) _ W (.inr (yw O))).mono ?_;rintro r w' ⟨rfl,I⟩
      exact G _ _ (D.next I) (Qg _ I _) rfl
    · intro x W D o K G
      have S:=D.facts.1;have J:=D.facts.2;clear o;simp only[lay,Act.put,Ls]at G⊢;go_simp
      exact G _ _ (D.alloc _) (Ql _ _ _) ⟨W.heap.size,rfl,Wn _ _⟩
    · intro x W D o K G
      have O:(GK.holds (.ints [1,3]) (x 54) W):=o ⟨26,.data⟩ (by simp) rfl _ rfl;have S:=D.facts.1;have J:=D.facts.2;clear o;simp only[lay,Act.put,Ls]at G⊢;go_simp
      refine(yL 15 [1,3] (by simp) _ W (.inr (yw O))).mono ?_;rintro r w' ⟨rfl,I⟩
      exact G _ _ (D.next I) (Qg _ I _) rfl
    · intro x W D o K G
      have S:=D.facts.1;have J:=D.facts.2;clear o;simp only[lay,Act.put,Ls]at G⊢;go_simp
      exact G _ _ (D.alloc _) (Ql _ _ _) ⟨W.heap.size,rfl,Wn _ _⟩
    · intro x W D o K G
      have O:(GK.holds (.ints [0,0,11]) (x 56) W):=o ⟨28,.data⟩ (by simp) rfl _ rfl;have S:=D.facts.1;have J:=D.facts.2;clear o;simp only[lay,Act.put,Ls]at G⊢;go_simp
      refine(yL 4 [0,0,11] (by simp) _ W (.inr (yw O))).mono ?_;rintro r w' ⟨rfl,I⟩
      exact G _ _ (D.next I) (Qg _ I _) rfl
    · intro x W D o K G
      have S:=D.facts.1;have J:=D.facts.2;clear o;simp only[lay,Act.put,Ls]at G⊢;go_simp
      refine(yL 16 [] (by simp) _ W (.inl ⟨rfl,rfl⟩)).mono ?_;rintro r w' ⟨rfl,I⟩
      exact G _ _ (D.next I) (Qg _ I _) rfl
    · intro x W D o K G
      have O:(GK.holds (.val (InstV.val ⟨1,0,0,0⟩)) (x 29) W):=o ⟨1,.data⟩ (by simp) rfl _ rfl;have g1:(GK.holds (.val (InstV.val ⟨1,1,k,0⟩)) (x 33) W):=o ⟨5,.data⟩ (by simp) rfl _ rfl;have g2:(GK.holds (.val (InstV.val ⟨1,2,1,0⟩)) (x 35) W):=o ⟨7,.data⟩ (by simp) rfl _ rfl;have g3:(GK.holds (.val (InstV.val ⟨3,0,1,5⟩)) (x 37) W):=o ⟨9,.data⟩ (by simp) rfl _ rfl;have g4:(GK.holds (.val (InstV.val ⟨4,0,0,9⟩)) (x 39) W):=o ⟨11,.data⟩ (by simp) rfl _ rfl;have g5:(GK.holds (.val (InstV.val ⟨10,0,1,0⟩)) (x 41) W):=o ⟨13,.data⟩ (by simp) rfl _ rfl;have g6:(GK.holds (.val (InstV.val ⟨14,1,0,0⟩)) (x 43) W):=o ⟨15,.data⟩ (by simp) rfl _ rfl;have g7:(GK.holds (.val (InstV.val ⟨2,0,2,0⟩)) (x 45) W):=o ⟨17,.data⟩ (by simp) rfl _ rfl;have g8:(GK.holds (.val (InstV.val ⟨4,0,0,3⟩)) (x 47) W):=o ⟨19,.data⟩ (by simp) rfl _ rfl;have g9:(GK.holds (.val (InstV.val ⟨14,2,0,0⟩)) (x 49) W):=o ⟨21,.data⟩ (by simp) rfl _ rfl;have ab:(GK.holds (.val (InstV.val ⟨14,3,0,0⟩)) (x 51) W):=o ⟨23,.data⟩ (by simp) rfl _ rfl;have Z:(GK.holds (.val (InstV.val ⟨6,1,3,14⟩)) (x 53) W):=o ⟨25,.data⟩ (by simp) rfl _ rfl;have ac:(GK.holds (.val (InstV.val ⟨15,1,3,0⟩)) (x 55) W):=o ⟨27,.data⟩ (by simp) rfl _ rfl;have Y:(GK.holds (.val (InstV.val ⟨4,0,0,11⟩)) (x 57) W):=o ⟨29,.data⟩ (by simp) rfl _ rfl;have aa:(GK.holds (.val (InstV.val ⟨16,0,0,0⟩)) (x 58) W):=o ⟨30,.data⟩ (by simp) rfl _ rfl;change x 29=_ at O
      change x 33=_ at g1
      change x 35=_ at g2
      change x 37=_ at g3
      change x 39=_ at g4
      change x 41=_ at g5
      change x 43=_ at g6
      change x 45=_ at g7
      change x 47=_ at g8
      change x 49=_ at g9
      change x 51=_ at ab
      change x 53=_ at Z
      change x 55=_ at ac
      change x 57=_ at Y
      change x 58=_ at aa
      have S:=D.facts.1;have J:=D.facts.2;clear o;unfold InstV.val at O g1 g2 g3 g4 g5 g6 g7 g8 g9 ab Z ac Y aa;simp only[lay,Act.put,Ls,O,g1,g2,g3,g4,g5,g6,g7,g8,g9,ab,Z,ac,Y,aa]at G⊢;go_simp
      exact G _ _ (D.alloc _) (Ql _ _ _) ⟨W.heap.size,rfl,Wn _ _⟩
    · intro x W D o K G
      have O:(GK.holds (.insts (qdO k)) (x 59) W):=o ⟨31,.data⟩ (by simp) rfl _ rfl;have S:=D.facts.1;have J:=D.facts.2;clear o;simp only[lay,Act.put,Ls]at G⊢;go_simp
      exact G _ _ D (fun _ _ _ h=>h) O
  case refine_3=>
    intro x W D hG;have O:(GK.holds (.insts (qdO k)) (x 8) W):=hG 32 _ rfl;clear hG;have U:=(ag.out W D.below).more O;obtain⟨b8,e8, -⟩:=O;have ai:x 8= .slice (some ⟨b8,0,none⟩) 15 15:=e8;clear e8 D;simp only[lay,Act.put,Ls];rw[ai]at U⊢;iterate 8
      go_wp2_with fail
      refine Jd (by first|exact Jh|exact zn (Wn _ _)|exact zm (Wn _ _)|exact zp (Wn _ _)|exact zn (qk _ _ (by simp))|exact zm (qk _ _ (by simp))|exact zp (qk _ _ (by simp))) (by simp) (fun w' I=>?_);replace U:=U.next (by first|exact qy _ I|exact I)
      clear I
    go_wp2_with fail
    replace U:=(U.next (Br.alloc Nl _)).more (L:=qh3) ⟨_,rfl,Wn _ _⟩
    refine Jd (by first|exact Jh|exact zn (Wn _ _)|exact zm (Wn _ _)|exact zp (Wn _ _)|exact zn (qk _ _ (by simp))|exact zm (qk _ _ (by simp))|exact zp (qk _ _ (by simp))) (by simp) (fun w' I=>?_);replace U:=U.next (by first|exact qy _ I|exact I)
    clear I;iterate 18
      go_wp2_with fail
      refine Jd (by first|exact Jh|exact zn (Wn _ _)|exact zm (Wn _ _)|exact zp (Wn _ _)) (by simp) (fun w' I=>?_);replace U:=U.next (by first|exact qy _ I|exact I)
      clear I
    go_wp2_with fail
    replace U:=(U.next (Br.alloc Nl _)).more (L:=qh7 bq n) ⟨_,rfl,Wn _ _⟩
    refine Jd (by first|exact Jh|exact zn (Wn _ _)|exact zm (Wn _ _)|exact zp (Wn _ _)|exact zn (qk _ _ (by simp))|exact zm (qk _ _ (by simp))|exact zp (qk _ _ (by simp))) (by simp) (fun w' I=>?_);replace U:=U.next (by first|exact qy _ I|exact I)
    clear I;iterate 2
      go_wp2_with fail
      refine Jd (by first|exact Jh|exact zn (Wn _ _)|exact zm (Wn _ _)|exact zp (Wn _ _)) (by simp) (fun w' I=>?_);replace U:=U.next (by first|exact qy _ I|exact I)
      clear I
    obtain⟨c0,c1,c2,c3,c4,hr⟩:=U.res;have hx:=U.box;rw[V]at hx hr;obtain⟨cx,fx⟩:=Yl hx;obtain⟨cr,fr⟩:=Yl hr;have J:=U.size;rw[V]at J;have aj:bx<w'.heap.size:=by omega
    have HI:=hid U;have HR:=hid hr;clear U hx hr;go_wp2
    have h5:=((((HI.out.set (p:=⟨bx+1,0,none⟩) (.slice (some ⟨w'.heap.size+1,0,none⟩) 4 4) (by simp[V]) (by simp) rfl).set (p:=⟨bx+1,1,none⟩) (.slice (some ⟨w'.heap.size+1+1,0,none⟩) 3 3) (by simp[V]) (by simp) rfl).set (p:=⟨bx+1,2,none⟩) (.int .i64 1) (by simp[V]) (by simp) rfl).set (p:=⟨bx+1,3,none⟩) (.int .i64 0) (by simp[V]) (by simp) rfl).set (p:=⟨bx+1,4,none⟩) (.int .i64 bq) (by simp[V]) (by simp) rfl;have h6:=(h5.next (Br.alloc Nl (.cells (qbZ qe1).toArray 243 (0,0)))).more (v:= .slice (some ⟨w'.heap.size,0,none⟩) 3 3) (L:=qe1) ⟨_,rfl,qk _ _ (by simp)⟩;have ae:=block_setCell (i:=4) (block_setCell (i:=3) (block_setCell (i:=2) (block_setCell (i:=1) (block_setCell (i:=0) HR.out (.slice (some ⟨w'.heap.size+1,0,none⟩) 4 4)) (.slice (some ⟨w'.heap.size+1+1,0,none⟩) 3 3)) (.int .i64 1)) (.int .i64 0)) (.int .i64 bq);refine Bp (zb rfl rfl rfl ((Bh _ _ _ (by simp;omega)).trans ((Bh _ _ _ (by simp;omega)).trans ((Bh _ _ _ (by simp;omega)).trans ae))) rfl) rfl ⟨_,rfl,⟨_,_,_,_,_,_,rfl,(Bh _ _ _ (by simp)).trans (qk _ _ (by simp)),qk _ _ (by simp),(h6.next ((Br.alloc Nl _).alloc (by simp) _)).held _ (.tail _ (.tail _ (.tail _ (.head _)))),(h6.next ((Br.alloc Nl _).alloc (by simp) _)).held _ (.tail _ (.tail _ (.head _))),(h6.next ((Br.alloc Nl _).alloc (by simp) _)).held _ (.tail _ (.head _)),(h6.next ((Br.alloc Nl _).alloc (by simp) _)).held _ (.head _)⟩,(h6.next ((Br.alloc Nl _).alloc (by simp) _)).below⟩
theorem qa4 {W:World}{b:Nat}{c0 c1 c2 V Y:Value}{T:TypeId}(h:W.heap[b]? =some (Obj.cells #[c0,c1,c2,V,Y] T (0,0)))(J D o I G:Value):
    (((((W.setCell ⟨b,0,none⟩ J).setCell ⟨b,1,none⟩ D).setCell ⟨b,2,none⟩ o).setCell ⟨b,3,none⟩ I).setCell ⟨b,4,none⟩ G).heap[b]? =some (Obj.cells #[J,D,o,I,G] T (0,0)):=by
  have Z:=block_setCell (i:=0) h J;have S:=block_setCell (i:=1) Z D;have O:=block_setCell (i:=2) S o;have U:=block_setCell (i:=3) O I;have X:=block_setCell (i:=4) U G;exact X
theorem Y5 {w W:World}{n b o:Nat}{v:Value}(h:Below n w W)(G:n≤b):Below n w (W.setCell ⟨b,o,none⟩ v):=
  h.trans ⟨rfl,rfl,rfl,by simp,fun g D=>Below.heap_setCell _ _ _ _ (by show g≠b;omega)⟩
theorem jK {w W:World}{n b:Nat}(h:Below n w W)(o:n≤b)(I G D O J:Value):
    Below n w (((((W.setCell ⟨b,0,none⟩ I).setCell ⟨b,1,none⟩ G).setCell ⟨b,2,none⟩ D).setCell ⟨b,3,none⟩ O).setCell ⟨b,4,none⟩ J):=
  Y5 (Y5 (Y5 (Y5 (Y5 h o) o) o) o) o
def YQ (n k q:Int):Int:=if QX k q then(if 0≤n∧n≤1024 then 0 else 1) else 150
theorem Ju {n k q:Int}(h: ¬QX k q):YQ n k q=150:=by unfold YQ;rw[if_neg h]
theorem Zq {n k q:Int}(h:QX k q)(o: ¬(0≤n∧n≤1024)):YQ n k q=1:=by unfold YQ;rw[if_pos h,if_neg o]
theorem qff {n k q:Int}(h:QX k q)(o:0≤n∧n≤1024):YQ n k q=0:=by unfold YQ;rw[if_pos h,if_pos o]
theorem qaF {n k q z:Int}(h:YQ n k q=z):Ending.returned (.tuple #[zc,.int .i64 z])= .returned (.tuple #[zc,.int .i64 (YQ n k q)]):=by rw[h]
theorem qeb (n k q:Int)(I: ¬QX k q)(w:World):Calls Tryz.prog 118 #[.int .i64 n,.agg #[.int .i64 k,.int .i64 q]] w fun e w'=>e= .returned (.tuple #[zc,.int .i64 (YQ n k q)])∧Below w.heap.size w w':=by
  have D:=hid (YL k q);rw[show Q0 k q=150 by unfold Q0;rw[if_neg I]]at D;have U:=hid (qaF (Ju (n:=n) I));obtain⟨Y,O⟩:=Ex (yJ k q);rw[O]at D;obtain⟨bx,X⟩:=Ex w.heap.size;go_enter Tryz.func118,Tryz.ntmps118
  go_wp2_with fail
  refine(D.out _).mono ?_;rintro r w2 ⟨rfl,o⟩;have J:=o.size;simp at J
  have G:w2.heap[bx+1]? =_:=(o.block _ (by simp;omega)).trans (qk _ _ (by simp;omega));obtain⟨Z,fr⟩:=Yl G;have S:=hid G;have V:=hid (qy _ (qy _ o));clear G o;go_wp2
  refine Bp (zb rfl rfl rfl (qa4 S.out _ _ _ _ _) rfl) rfl ⟨?_,jK V.out (by omega) _ _ _ _ _⟩;exact U.out
theorem qea (n k q:Int)(I:QX k q)(Y:n<0)(w:World):Calls Tryz.prog 118 #[.int .i64 n,.agg #[.int .i64 k,.int .i64 q]] w fun e w'=>e= .returned (.tuple #[zc,.int .i64 (YQ n k q)])∧Below w.heap.size w w':=by
  have D:=hid (YL k q);rw[show Q0 k q=0 by unfold Q0;rw[if_pos I]]at D;have U:=hid (qaF (Zq (n:=n) I (by omega)));obtain⟨Z,O⟩:=Ex (yJ k q);rw[O]at D;obtain⟨bx,X⟩:=Ex w.heap.size;go_enter Tryz.func118,Tryz.ntmps118
  go_wp2_with fail
  refine(D.out _).mono ?_;rintro r w2 ⟨rfl,o⟩;have J:=o.size;simp at J
  have G:w2.heap[bx+1]? =_:=(o.block _ (by simp;omega)).trans (qk _ _ (by simp;omega));obtain⟨cr,fr⟩:=Yl G;have S:=hid G;have V:=hid (qy _ (qy _ o));clear G o;go_wp2
  refine Bp (zb rfl rfl rfl (qa4 S.out _ _ _ _ _) rfl) rfl ⟨?_,jK V.out (by omega) _ _ _ _ _⟩;exact U.out
theorem qd9 (n k q:Int)(I:QX k q)(Y:1024<n)(w:World):Calls Tryz.prog 118 #[.int .i64 n,.agg #[.int .i64 k,.int .i64 q]] w fun e w'=>e= .returned (.tuple #[zc,.int .i64 (YQ n k q)])∧Below w.heap.size w w':=by
  have D:=hid (YL k q);rw[show Q0 k q=0 by unfold Q0;rw[if_pos I]]at D;have U:=hid (qaF (Zq (n:=n) I (by omega)));obtain⟨Z,O⟩:=Ex (yJ k q);rw[O]at D;obtain⟨bx,X⟩:=Ex w.heap.size;go_enter Tryz.func118,Tryz.ntmps118
  go_wp2_with fail
  refine(D.out _).mono ?_;rintro r w2 ⟨rfl,o⟩;have J:=o.size;simp at J
  have G:w2.heap[bx+1]? =_:=(o.block _ (by simp;omega)).trans (qk _ _ (by simp;omega));obtain⟨cr,fr⟩:=Yl G;have S:=hid G;have V:=hid (qy _ (qy _ o));clear G o;go_wp2
  refine Bp (zb rfl rfl rfl (qa4 S.out _ _ _ _ _) rfl) rfl ⟨?_,jK V.out (by omega) _ _ _ _ _⟩;exact U.out
theorem SysOk.ex {W:World}{v:Value}{n k q o:Int}(D:yJ k q=o)(h:SysOk W v n k q): ∃b r:Nat,v= .agg #[.slice (some ⟨b,0,none⟩) 4 4,.slice (some ⟨r,0,none⟩) 3 3,.int .i64 1,.int .i64 0,.int .i64 o]:=by subst D;obtain⟨b,r,J,I,G,O,e, -⟩:=h;exact⟨b,r,e⟩
theorem qib {k l:IntKind}{a b c d:Int}(h:a=b)(o:c=d):Ending.returned (.tuple #[.int k a,.int l c])= .returned (.tuple #[.int k b,.int l d]):=by rw[h,o]
def SysAny (W:World)(v:Value)(n k q:Int):Prop:=(YQ n k q=0∧SysOk W v n k q)∨(YQ n k q≠0∧v=zc)
theorem SysAny.form {W:World}{v:Value}{n k q:Int}(h:SysAny W v n k q):(∃b r:Nat,YQ n k q=0∧v= .agg #[.slice (some ⟨b,0,none⟩) 4 4,.slice (some ⟨r,0,none⟩) 3 3,.int .i64 1,.int .i64 0,.int .i64 (yJ k q)])∨(YQ n k q≠0∧v=zc):=by
  rcases h with⟨o,h⟩|h
  · obtain⟨b,r,e⟩:=SysOk.ex rfl h
    exact .inl ⟨b,r,o,e⟩
  · exact .inr h
theorem qed (n k q:Int):(QX k q∧0≤n∧n≤1024∧YQ n k q=0)∨(YQ n k q≠0):=by
  by_cases h:QX k q
  · by_cases o:0≤n∧n≤1024
    · exact .inl ⟨h,o.1,o.2,qff h o⟩
    · right;rw[Zq h o];decide
  · right;rw[Ju h];decide
theorem qdo (k q:Int)(h:QX k q):1≤k∧k≤256∧0≤yJ k q∧yJ k q≤64:=by
  obtain⟨D,o,G,I⟩:=h;refine⟨D,o,?_⟩;unfold yJ;rw[if_pos ⟨D,o,G,I⟩];omega
def qhl (n k q:Int):Int:=if YQ n k q=0 then 23+8*k+4*yJ k q+15*n else 0
theorem qec (n k q:Int)(w:World):Calls Tryz.prog 118 #[.int .i64 n,.agg #[.int .i64 k,.int .i64 q]] w fun e w'=> ∃v,e= .returned (.tuple #[v,.int .i64 (YQ n k q)])∧SysAny w' v n k q∧Below w.heap.size w w':=by
  by_cases o:QX k q
  · by_cases O:n<0
    · refine(qea n k q o O w).mono ?_;rintro e w' ⟨rfl,D⟩
      exact⟨_,rfl,.inr ⟨by rw[Zq o (by omega)];decide,rfl⟩,D⟩
    by_cases I:1024<n
    · refine(qd9 n k q o I w).mono ?_;rintro e w' ⟨rfl,D⟩
      exact⟨_,rfl,.inr ⟨by rw[Zq o (by omega)];decide,rfl⟩,D⟩
    · refine(qfJ n k q o (by omega) (by omega) w).mono ?_;rintro e w' ⟨v,rfl,J,D⟩
      have G:YQ n k q=0:=qff o (by omega);exact⟨v,by rw[G],.inl ⟨G,J⟩,D⟩
  · refine(qeb n k q o w).mono ?_;rintro e w' ⟨rfl,D⟩
    exact⟨_,rfl,.inr ⟨by rw[Ju o];decide,rfl⟩,D⟩
theorem qgo (n k q:Int)(w:World):Calls Tryz.prog 82 #[.int .i64 n,.agg #[.int .i64 k,.int .i64 q]] w fun e w'=>e= .returned (.tuple #[.int .i64 (qhl n k q),.int .i64 (YQ n k q)])∧Below w.heap.size w w':=by
  have HS:=hid (qec n k q);have HV:=hid (YL k q);have HB:=hid (qdo k q);have HC:=hid (qed n k q);obtain⟨bd,I⟩:=Ex (qhl n k q);rw[I];obtain⟨bx,ag⟩:=Ex w.heap.size;go_enter Tryz.func82,Tryz.ntmps82
  go_wp2_with fail
  refine(HS.out _).mono ?_;rintro r w2 ⟨v,rfl,Z,J⟩;have ac:=J.size;simp at ac
  have Y:w2.heap[bx]? =_:=(J.block _ (by simp;omega)).trans (qk _ _ ag.symm);obtain⟨cx,fx⟩:=Yl Y;have al:bx<w2.heap.size:=by omega
  have HX:=hid Y;have O:=hid (qy _ J);clear Y J;have ae:=Z.form;clear Z;rcases ae with⟨pb,rb,o,rfl⟩|⟨o,rfl⟩
  · obtain⟨U,ah,am, -⟩:QX k q∧0≤n∧n≤1024∧YQ n k q=0:=by
      rcases HC.out with h|h
      · exact h
      · exact absurd o h
    obtain⟨aj,ai,aa,ab⟩:=HB.out U;have G:=HV.out;rw[show Q0 k q=0 by unfold Q0;rw[if_pos U]]at G;rw[o];have X:23+8*k+4*yJ k q+15*n=bd:=by rw[←I];unfold qhl;rw[if_pos o]
    have HZ:=hid o.symm;clear I HB HS HV HC U o;generalize yJ k q=bq at X aa ab G⊢;have ad:=hid G;have V:=hid X;clear G X;go_wp2_with fail
    refine(ad.out _).mono ?_;rintro r w3 ⟨rfl,D⟩;have S:=(D.block bx (by simp;omega)).trans ((Bh _ _ _ (by omega)).trans HX.out);obtain⟨ak,ao⟩:=Yl S;have af:=hid (O.out.trans (qy _ (D.mono (by simp)) |>.mono O.out.size));have an:bx<w3.heap.size:=by have:=D.size;simp at this;omega
    clear cx fx D S;go_wp2
    all_goals exact Bp (results_tmp2 rfl _ _ _) rfl ⟨Eq.trans (b:= .returned (.tuple #[.int .i64 (23+8*k+4*bq+15*n),.int .i64 0])) rfl (qib V.out HZ.out),af.out⟩
  · unfold zc
    have V:=hid (show 0=bd by rw[←I];unfold qhl;rw[if_neg o]);go_wp2
    exact Bp (results_tmp2 rfl _ _ _) rfl ⟨Eq.trans (b:= .returned (.tuple #[.int .i64 0,.int .i64 (YQ n k q)])) rfl (qaS V.out),O.out.alloc O.out.size _⟩
theorem qdq (w:World):Calls Tryz.prog 48 #[] w fun e w'=>e= .returned (.bool true)∧Below w.heap.size w w':=by
  have H:=hid (qgo 1 1 1);rw[show qhl 1 1 1=54 by decide,show YQ 1 1 1=0 by decide]at H;go_enter Tryz.func48,Tryz.ntmps48
  go_wp2_with fail
  refine(H.out _).mono ?_;rintro r w2 ⟨rfl,o⟩;have D:=hid o;clear o;go_wp2
  go_ret
  exact⟨rfl,D.out⟩
end Go.Proofs.YthjoojnlnlmljaaGreat
