/- The programs of a pool, by the program. No condition. -/
import Derived.Test.YthjoojnlnlmljaaGreatG45
import Derived.Test.YthjoojnlnlmljaaGreatG13
import Derived.BigQuiet
import Derived.Deep.QuietTactic
set_option linter.all false
set_option maxRecDepth 100000
set_option maxHeartbeats 8000000
namespace Go.Proofs.YthjoojnlnlmljaaGreat
open Go.ChangeShapes Go.WideShapes Go.ChangeAt Go.RowKit Go.Joins
open Go.Lib (hid)
attribute [local go_sem] Oper.semAt_some
structure InstV where
  op:Int
  a:Int
  b:Int
  c:Int
def InstV.val (i:InstV):Value:= .agg #[.int .i64 i.op,.int .i64 i.a,.int .i64 i.b,.int .i64 i.c]
def qcw (L:List InstV):List Value:=L.flatMap fun i=>[.int .i64 i.op,.int .i64 i.a,.int .i64 i.b,.int .i64 i.c]
def IntsAt (w:World)(v:Value)(L:List Int):Prop:= ∃b,v= .slice (some ⟨b,0,none⟩) L.length L.length∧w.heap[b]? =some (.cells (L.map fun z=>Value.int .i64 z).toArray 3 (0,0))
def InstsAt (w:World)(v:Value)(L:List InstV):Prop:= ∃b,v= .slice (some ⟨b,0,none⟩) L.length L.length∧w.heap[b]? =some (.cells (qcw L).toArray 243 (0,0))
theorem zN {w w':World}{b:Nat}{o:Obj}(h:w.heap[b]? =some o)(D:Below w.heap.size w w'):w'.heap[b]? =some o:=(D.block b (Ai h).1).trans h
theorem IntsAt.below {w w':World}{v:Value}{L:List Int}(h:IntsAt w v L)(o:Below w.heap.size w w'):IntsAt w' v L:=by
  obtain⟨b,e,h⟩:=h;exact⟨b,e,zN h o⟩
theorem InstsAt.below {w w':World}{v:Value}{L:List InstV}(h:InstsAt w v L)(o:Below w.heap.size w w'):InstsAt w' v L:=by
  obtain⟨b,e,h⟩:=h;exact⟨b,e,zN h o⟩
theorem yE {w:World}{v:Value}{L:List Int}(h:IntsAt w v L): ∃b o,v= .slice (some ⟨b,0,none⟩) L.length o∧w.heap[b]? =some (Obj.cells (L.map fun z=>Value.int .i64 z).toArray 3 (0,0)):=by
  obtain⟨b,e,h⟩:=h;exact⟨b,_,e,h⟩
inductive GK where
  | ints (l:List Int)
  | val (v:Value)
  | insts (l:List InstV)
def GK.holds:GK→Value→World→Prop
  | .ints l,v,W=>IntsAt W v l
  | .val u,v,_=>v=u
  | .insts l,v,W=>InstsAt W v l
theorem GK.below {g:GK}{v:Value}{W W':World}(h:g.holds v W)(o:Below W.heap.size W W'):g.holds v W':=by
  cases g with
  | ints l=>exact IntsAt.below h o
  | val u=>exact h
  | insts l=>exact InstsAt.below h o
def qag (L:List GK)(i:Nat)(v:Value)(W:World):Prop:=match L[i]? with|some g=>g.holds v W|none=>True
theorem Qm (L:List GK){W W':World}(o:Below W.heap.size W W')(i:Nat): ∀j u,j≠i→qag L j u W→qag L j u W':=by
  intro j u _ h;unfold qag at*;split at h
  · exact GK.below h o
  · trivial
theorem Qr (L:List GK){W:World}(o:Obj)(i:Nat): ∀j u,j≠i→qag L j u W→qag L j u (W.alloc o):=Qm L (Br.alloc Nl _) i
def jm (p:Nat→Oper→Prop):Nat→List Oper→Prop
  | _,[]=>True
  | n,o::l=>p n o∧jm p (n+1) l
theorem qy {p:Nat→Oper→Prop}{n:Nat}{o:Oper}{l:List Oper}(h:p n o)(D:jm p (n+1) l):jm p n (o::l):=⟨h,D⟩
theorem qdY {p:Nat→Oper→Prop}{n:Nat}:jm p n []:=trivial
theorem qbn {p:Nat→Oper→Prop}: ∀(l:List Oper) (n:Nat),jm p n l→ ∀i o,l[i]? =some o→p (n+i) o
  | [],_,_,i,o,hi=>by simp at hi
  | _::_,n,h,0,o,hi=>by simp at hi;subst hi;exact h.1
  | _::l,n,h,i+1,o,hi=>by
    have:=qbn l (n+1) h.2 i o (by simpa using hi)
    rw[show n+(i+1)=n+1+i by omega];exact this
theorem qc0 {p:Nat→Oper→Prop}{l:List Oper}(h:jm p 0 l): ∀i o,l[i]? =some o→p i o:=fun i o D=>by
  have:=qbn l 0 h i o D
  rwa[Nat.zero_add]at this
theorem qiy {ops:List Oper}{G:Nat→Value→World→Prop}(h:(ops.all fun o=>o.dst.isSome)=true): ∀i o v W,ops[i]? =some o→o.dst=none→G i v W→G i undef W:=fun i o v W D I=>by
  have:=List.all_eq_true.1 h o (List.mem_of_getElem? D)
  rw[I]at this;cases this
structure Inv6 (w:World)(bx:Nat)(k:Int)(w2 W:World):Prop where
  below:Below w2.heap.size w2 W
  size:bx+1<w2.heap.size
  cell:w2.cell? ⟨bx,0,none⟩=some (.int .i64 k)
namespace Inv6
variable {w:World} {bx:Nat} {k:Int} {w2 W W':World}
theorem facts (h:Inv6 w bx k w2 W):W.cell? ⟨bx,0,none⟩=some (.int .i64 k)∧bx+1<W.heap.size:=
  ⟨(h.below.cell (p:=⟨bx,0,none⟩) (show bx<w2.heap.size by have:=h.size;omega)).trans h.cell,by have:=h.size;have:=h.below.size;omega⟩
theorem next (h:Inv6 w bx k w2 W)(o:Below W.heap.size W W'):Inv6 w bx k w2 W':=⟨h.below.trans (o.mono h.below.size),h.size,h.cell⟩
theorem alloc (h:Inv6 w bx k w2 W)(o:Obj):Inv6 w bx k w2 (W.alloc o):=h.next (Br.alloc Nl _)
end Inv6
def qiH:List InstV:=[⟨6,0,3,6⟩,⟨12,3,4,0⟩,⟨15,0,4,0⟩,⟨5,2,3,0⟩,⟨5,1,4,0⟩,⟨4,0,0,0⟩,⟨10,0, -1,0⟩,⟨16,0,0,0⟩]
def qiL (b n:Int):List InstV:=[⟨1,0,0,0⟩,⟨1,1,b,0⟩,⟨1,2,1,0⟩,⟨3,0,1,5⟩,⟨4,0,0,8⟩,⟨5,2,0,0⟩,⟨2,0,2,0⟩,⟨4,0,0,3⟩,⟨1,0,0,0⟩,⟨1,1,n,0⟩,⟨3,0,1,12⟩,⟨4,0,0,17⟩,⟨6,2,3,17⟩,⟨13,3,0,0⟩,⟨5,0,3,0⟩,⟨2,0,2,0⟩,⟨4,0,0,10⟩,⟨7,0,0,0⟩,⟨16,0,0,0⟩]
def qfB:List InstV:=[⟨11,0,0,0⟩,⟨7,1,0,0⟩,⟨16,0,0,0⟩]
def qen (k:Int):List InstV:=[⟨1,0,0,0⟩,⟨1,1,k,0⟩,⟨1,2,1,0⟩,⟨3,0,1,5⟩,⟨4,0,0,9⟩,⟨10,0,1,0⟩,⟨14,1,0,0⟩,⟨2,0,2,0⟩,⟨4,0,0,3⟩,⟨14,2,0,0⟩,⟨14,3,0,0⟩,⟨6,1,3,14⟩,⟨15,1,3,0⟩,⟨4,0,0,11⟩,⟨16,0,0,0⟩]
def qiZ (bx:Nat)(k:Int):List GK:=[.ints [0,0],.val (InstV.val ⟨1,0,0,0⟩),.val (.pointer (some ⟨bx,0,none⟩)),.val (.int .i64 k),.ints [1,k],.val (InstV.val ⟨1,1,k,0⟩),.ints [2,1],.val (InstV.val ⟨1,2,1,0⟩),.ints [0,1,5],.val (InstV.val ⟨3,0,1,5⟩),.ints [0,0,9],.val (InstV.val ⟨4,0,0,9⟩),.ints [0,1],.val (InstV.val ⟨10,0,1,0⟩),.ints [1],.val (InstV.val ⟨14,1,0,0⟩),.ints [0,2],.val (InstV.val ⟨2,0,2,0⟩),.ints [0,0,3],.val (InstV.val ⟨4,0,0,3⟩),.ints [2],.val (InstV.val ⟨14,2,0,0⟩),.ints [3],.val (InstV.val ⟨14,3,0,0⟩),.ints [1,3,14],.val (InstV.val ⟨6,1,3,14⟩),.ints [1,3],.val (InstV.val ⟨15,1,3,0⟩),.ints [0,0,11],.val (InstV.val ⟨4,0,0,11⟩),.val (InstV.val ⟨16,0,0,0⟩),.insts (qen k),.insts (qen k)]
structure Inv7 (w:World)(k q:Int)(l:List (Value×List InstV))(W:World):Prop where
  below:Below w.heap.size w W
  size:w.heap.size+1<W.heap.size
  box:W.heap[w.heap.size]? =some (.cells #[.int .i64 k,.int .i64 q] 90 (0,0))
  res: ∃c0 c1 c2 c3 c4,W.heap[w.heap.size+1]? =some (.cells #[c0,c1,c2,c3,c4] 202 (0,0))
  held: ∀p∈l,InstsAt W p.1 p.2
namespace Inv7
variable {w:World} {k q:Int} {l:List (Value×List InstV)} {W W':World}
theorem next (h:Inv7 w k q l W)(o:Below W.heap.size W W'):Inv7 w k q l W':=
  ⟨h.below.trans (o.mono h.below.size),by have:=h.size;have:=o.size;omega,zN h.box o,by obtain⟨D,c1,c2,G,J,h⟩:=h.res;exact⟨D,c1,c2,G,J,zN h o⟩,fun p I=>(h.held p I).below o⟩
theorem more (h:Inv7 w k q l W){v:Value}{L:List InstV}(D:InstsAt W v L):Inv7 w k q ((v,L)::l) W:=
  ⟨h.below,h.size,h.box,h.res,fun p o=>by
    rcases List.mem_cons.1 o with rfl|o
    · exact D
    · exact h.held p o⟩
theorem set (h:Inv7 w k q l W){p:Addr}(v:Value)(D:p.block=w.heap.size+1)(O:p.off<5)(I:p.spot=none):Inv7 w k q l (W.setCell p v):=by
  obtain⟨b,o,Z⟩:=p;simp only at D O I
  subst D I;refine⟨h.below.trans ⟨rfl,rfl,rfl,by simp,fun g Y=>Below.heap_setCell _ _ _ _ (by show g≠w.heap.size+1;omega)⟩,by simpa using h.size,(Below.heap_setCell _ _ _ _ (by show w.heap.size≠w.heap.size+1;omega)).trans h.box,?_,fun p D=>?_⟩
  · obtain⟨U,c1,c2,J,X,h⟩:=h.res
    have:=block_setCell h (i:=o) v
    rw[this];rcases(show o=0∨o=1∨o=2∨o=3∨o=4 by omega)with rfl|rfl|rfl|rfl|rfl<;>exact⟨_,_,_,_,_,rfl⟩
  · obtain⟨b,e,G⟩:=h.held p D
    obtain⟨U,c1,c2,J,X,V⟩:=h.res;refine⟨b,e,(Below.heap_setCell _ _ _ _ ?_).trans G⟩;show b≠w.heap.size+1
    rintro rfl
    rw[V]at G;simp at G
end Inv7
def Zb (w:World)(l:List Int)(v:Value):Prop:=(l=[]∧v= .slice none 0 0)∨ ∃b cap,v= .slice (some ⟨b,0,none⟩) l.length cap∧w.heap[b]? =some (Obj.cells (l.map fun z=>Value.int .i64 z).toArray 3 (0,0))
theorem JH {w:World}:Zb w [] (.slice none 0 0):= .inl ⟨rfl,rfl⟩
theorem zH {w:World}{b c:Nat}{x:Int}(h:w.heap[b]? =some (Obj.cells #[.int .i64 x] 3 (0,0))):Zb w [x] (.slice (some ⟨b,0,none⟩) 1 c):= .inr ⟨b,c,rfl,h⟩
theorem zG {w:World}{b c:Nat}{x y:Int}(h:w.heap[b]? =some (Obj.cells #[.int .i64 x,.int .i64 y] 3 (0,0))):Zb w [x,y] (.slice (some ⟨b,0,none⟩) 2 c):= .inr ⟨b,c,rfl,h⟩
theorem zF {w:World}{b c:Nat}{x y z:Int}(h:w.heap[b]? =some (Obj.cells #[.int .i64 x,.int .i64 y,.int .i64 z] 3 (0,0))):Zb w [x,y,z] (.slice (some ⟨b,0,none⟩) 3 c):= .inr ⟨b,c,rfl,h⟩
theorem qiY {o:Int}{l:List Int}{v:Value}{w:World}(D:l.length≤3)(h:Zb w l v):Calls Tryz.prog 150 #[.int .i64 o,v] w fun e w'=>e= .returned (.agg #[.int .i64 o,.int .i64 (l.getD 0 0),.int .i64 (l.getD 1 0),.int .i64 (l.getD 2 0)])∧Below w.heap.size w w':=yU o l D v w h
theorem JD {o:Int}{l:List Int}{v:Value}{w:World}{K:Ending→World→Prop}(h:Zb w l v)(I:l.length≤3)(D: ∀w',Below w.heap.size w w'→K (.returned (.agg #[.int .i64 o,.int .i64 (l.getD 0 0),.int .i64 (l.getD 1 0),.int .i64 (l.getD 2 0)])) w'):Calls Tryz.prog 150 #[.int .i64 o,v] w K:=
  (qiY I h).mono fun e w' h=>by obtain⟨rfl,G⟩:=h;exact D w' G
theorem zp {P:Program}{fn:Func}{tmps:Array Value}{W:World}{b s t:Nat}{e J O I D G:Value}{T:TypeId}{fr:Nat×Nat}
    (hr:fn.results= #[.cell s 202,.tmp t]) (Z:tmps[s]?.getD undef= .pointer (some ⟨b,0,none⟩)) (X:tmps[t]?.getD undef=e)
    (o:W.heap[b]? =some (Obj.cells #[J,O,I,D,G] T fr)) (Y:P=Tryz.prog):
    (results fn tmps).run P W= .ok (.tuple #[.agg #[J,O,I,D,G],e]) W:=by
  subst Y;have V:=Qp o 0;have c1:=Qp o 1;have c2:=Qp o 2;have U:=Qp o 3;have c4:=Qp o 4;simp[results,hr,Z,X,go_sem,V,c1,c2,U,c4]
def SysOk (w:World)(v:Value)(n k q:Int):Prop:=
  ∃b r v0 v1 v2 v3,v= .agg #[.slice (some ⟨b,0,none⟩) 4 4,.slice (some ⟨r,0,none⟩) 3 3,.int .i64 1,.int .i64 0,.int .i64 (yS k q)]∧
    w.heap[b]? =some (.cells #[v0,v1,v2,v3] 245 (0,0))∧w.heap[r]? =some (.cells #[.int .i64 q,.int .i64 q,.int .i64 (yS k q)] 3 (0,0))∧
    InstsAt w v0 (qen k)∧InstsAt w v1 qiH∧InstsAt w v2 (qiL (yS k q) n)∧InstsAt w v3 qfB
def zq:Value:= .agg #[.slice none 0 0,.slice none 0 0,.int .i64 0,.int .i64 0,.int .i64 0]
theorem qgh (n k q:Int)(hp:QJ k q)(h0:0≤n)(h1:n≤1024)(w:World):Calls Tryz.prog 118 #[.int .i64 n,.agg #[.int .i64 k,.int .i64 q]] w fun e w'=> ∃v,e= .returned (.tuple #[v,.int .i64 0])∧SysOk w' v n k q∧Below w.heap.size w w':=by
  have HV:=hid (YV k q);rw[show Qu k q=0 by unfold Qu;rw[if_pos hp]]at HV;obtain⟨bq,af⟩:=Ex (yS k q);unfold SysOk;rw[af]at HV⊢;obtain⟨bx,X⟩:=Ex w.heap.size;go_enter Tryz.func118,Tryz.ntmps118
  go_wp2_with fail
  refine(HV.out _).mono ?_;rintro r w2 ⟨rfl,Y⟩;have ag:=Y.size;simp at ag
  have V:Inv6 w bx k w2 w2.drew:=⟨⟨rfl,rfl,rfl,Nat.le_refl _,fun _ _=>rfl⟩,by omega,(Y.cell (p:=⟨bx,0,none⟩) (by simp;omega)).trans (by rw[←X];simp)⟩;have Z: ∀W,Below w2.heap.size w2 W→Inv7 w k q [] W:=fun W hW=>by
    have h2:Inv7 w k q [] w2:=⟨qB _ (qB _ Y),by omega,(Y.block _ (by simp;omega)).trans ((Bh _ _ _ (by simp)).trans (Wn _ _)),⟨_,_,_,_,_,(Y.block _ (by simp)).trans (qn _ _ (by simp))⟩,fun p hp=>by cases hp⟩;exact h2.next hW
  have HI:=hid V;have aj:=hid Z;clear V Z;go_wp2_with fail
  refine qbP (ds:=[28,29,30,31,32,33,34,35,36,37,38,39,40,41,42,43,44,45,46,47,48,49,50,51,52,53,54,55,56,57,58,59,8]) (R:=Inv6 w bx k w2) (Good:=qag (qiZ bx k)) rfl (by decide) (by kernel_rfl) (by kernel_rfl) ?_ ?_ (qiy (by kernel_rfl)) ?_
  case refine_1=>exact HI.out
  case refine_2=>
    refine qc0 (p:=_) ?_;refine qy ?_ (qy ?_ (qy ?_ (qy ?_ (qy ?_ (qy ?_ (qy ?_ (qy ?_ (qy ?_ (qy ?_ (qy ?_ (qy ?_ (qy ?_ (qy ?_ (qy ?_ (qy ?_ (qy ?_ (qy ?_ (qy ?_ (qy ?_ (qy ?_ (qy ?_ (qy ?_ (qy ?_ (qy ?_ (qy ?_ (qy ?_ (qy ?_ (qy ?_ (qy ?_ (qy ?_ (qy ?_ (qy ?_ (qdY)))))))))))))))))))))))))))))))))
    · intro x W D o K G
      have U:=D.facts.1;have J:=D.facts.2;clear o;simp only[lay,Act.put,Ls]at G⊢;go_simp
      exact G _ _ (D.alloc _) (Qr _ _ _) ⟨W.heap.size,rfl,Wn _ _⟩
    · intro x W D o K G
      have O:(GK.holds (.ints [0,0]) (x 28) W):=o ⟨0,.data⟩ (by simp) rfl _ rfl;have U:=D.facts.1;have J:=D.facts.2;clear o;simp only[lay,Act.put,Ls]at G⊢;go_simp
      refine(yU 1 [0,0] (by simp) _ W (.inr (yE O))).mono ?_;rintro r w' ⟨rfl,I⟩
      exact G _ _ (D.next I) (Qm _ I _) rfl
    · intro x W D o K G
      have U:=D.facts.1;have J:=D.facts.2;clear o;simp only[lay,Act.put,Ls]at G⊢;go_simp
      exact G _ _ D (fun _ _ _ h=>h) rfl
    · intro x W D o K G
      have O:(GK.holds (.val (.pointer (some ⟨bx,0,none⟩))) (x 30) W):=o ⟨2,.data⟩ (by simp) rfl _ rfl;change x 30=_ at O
      have U:=D.facts.1;have J:=D.facts.2;clear o;simp only[lay,Act.put,Ls,O]at G⊢;go_simp
      exact G _ _ D (fun _ _ _ h=>h) rfl
    · intro x W D o K G
      have O:(GK.holds (.val (.int .i64 k)) (x 31) W):=o ⟨3,.data⟩ (by simp) rfl _ rfl;change x 31=_ at O
      have U:=D.facts.1;have J:=D.facts.2;clear o;simp only[lay,Act.put,Ls,O]at G⊢;go_simp
      exact G _ _ (D.alloc _) (Qr _ _ _) ⟨W.heap.size,rfl,Wn _ _⟩
    · intro x W D o K G
      have O:(GK.holds (.ints [1,k]) (x 32) W):=o ⟨4,.data⟩ (by simp) rfl _ rfl;have U:=D.facts.1;have J:=D.facts.2;clear o;simp only[lay,Act.put,Ls]at G⊢;go_simp
      refine(yU 1 [1,k] (by simp) _ W (.inr (yE O))).mono ?_;rintro r w' ⟨rfl,I⟩
      exact G _ _ (D.next I) (Qm _ I _) rfl
    · intro x W D o K G
      have U:=D.facts.1;have J:=D.facts.2;clear o;simp only[lay,Act.put,Ls]at G⊢;go_simp
      exact G _ _ (D.alloc _) (Qr _ _ _) ⟨W.heap.size,rfl,Wn _ _⟩
    · intro x W D o K G
      have O:(GK.holds (.ints [2,1]) (x 34) W):=o ⟨6,.data⟩ (by simp) rfl _ rfl;have U:=D.facts.1;have J:=D.facts.2;clear o;simp only[lay,Act.put,Ls]at G⊢;go_simp
      refine(yU 1 [2,1] (by simp) _ W (.inr (yE O))).mono ?_;rintro r w' ⟨rfl,I⟩
      exact G _ _ (D.next I) (Qm _ I _) rfl
    · intro x W D o K G
      have U:=D.facts.1;have J:=D.facts.2;clear o;simp only[lay,Act.put,Ls]at G⊢;go_simp
      exact G _ _ (D.alloc _) (Qr _ _ _) ⟨W.heap.size,rfl,Wn _ _⟩
    · intro x W D o K G
      have O:(GK.holds (.ints [0,1,5]) (x 36) W):=o ⟨8,.data⟩ (by simp) rfl _ rfl;have U:=D.facts.1;have J:=D.facts.2;clear o;simp only[lay,Act.put,Ls]at G⊢;go_simp
      refine(yU 3 [0,1,5] (by simp) _ W (.inr (yE O))).mono ?_;rintro r w' ⟨rfl,I⟩
      exact G _ _ (D.next I) (Qm _ I _) rfl
    · intro x W D o K G
      have U:=D.facts.1;have J:=D.facts.2;clear o;simp only[lay,Act.put,Ls]at G⊢;go_simp
      exact G _ _ (D.alloc _) (Qr _ _ _) ⟨W.heap.size,rfl,Wn _ _⟩
    · intro x W D o K G
      have O:(GK.holds (.ints [0,0,9]) (x 38) W):=o ⟨10,.data⟩ (by simp) rfl _ rfl;have U:=D.facts.1;have J:=D.facts.2;clear o;simp only[lay,Act.put,Ls]at G⊢;go_simp
      refine(yU 4 [0,0,9] (by simp) _ W (.inr (yE O))).mono ?_;rintro r w' ⟨rfl,I⟩
      exact G _ _ (D.next I) (Qm _ I _) rfl
    · intro x W D o K G
      have U:=D.facts.1;have J:=D.facts.2;clear o;simp only[lay,Act.put,Ls]at G⊢;go_simp
      exact G _ _ (D.alloc _) (Qr _ _ _) ⟨W.heap.size,rfl,Wn _ _⟩
    · intro x W D o K G
      have O:(GK.holds (.ints [0,1]) (x 40) W):=o ⟨12,.data⟩ (by simp) rfl _ rfl;have U:=D.facts.1;have J:=D.facts.2;clear o;simp only[lay,Act.put,Ls]at G⊢;go_simp
      refine(yU 10 [0,1] (by simp) _ W (.inr (yE O))).mono ?_;rintro r w' ⟨rfl,I⟩
      exact G _ _ (D.next I) (Qm _ I _) rfl
    · intro x W D o K G
      have U:=D.facts.1;have J:=D.facts.2;clear o;simp only[lay,Act.put,Ls]at G⊢;go_simp
      exact G _ _ (D.alloc _) (Qr _ _ _) ⟨W.heap.size,rfl,Wn _ _⟩
    · intro x W D o K G
      have O:(GK.holds (.ints [1]) (x 42) W):=o ⟨14,.data⟩ (by simp) rfl _ rfl;have U:=D.facts.1;have J:=D.facts.2;clear o;simp only[lay,Act.put,Ls]at G⊢;go_simp
      refine(yU 14 [1] (by simp) _ W (.inr (yE O))).mono ?_;rintro r w' ⟨rfl,I⟩
      exact G _ _ (D.next I) (Qm _ I _) rfl
    · intro x W D o K G
      have U:=D.facts.1;have J:=D.facts.2;clear o;simp only[lay,Act.put,Ls]at G⊢;go_simp
      exact G _ _ (D.alloc _) (Qr _ _ _) ⟨W.heap.size,rfl,Wn _ _⟩
    · intro x W D o K G
      have O:(GK.holds (.ints [0,2]) (x 44) W):=o ⟨16,.data⟩ (by simp) rfl _ rfl;have U:=D.facts.1;have J:=D.facts.2;clear o;simp only[lay,Act.put,Ls]at G⊢;go_simp
      refine(yU 2 [0,2] (by simp) _ W (.inr (yE O))).mono ?_;rintro r w' ⟨rfl,I⟩
      exact G _ _ (D.next I) (Qm _ I _) rfl
    · intro x W D o K G
      have U:=D.facts.1;have J:=D.facts.2;clear o;simp only[lay,Act.put,Ls]at G⊢;go_simp
      exact G _ _ (D.alloc _) (Qr _ _ _) ⟨W.heap.size,rfl,Wn _ _⟩
    · intro x W D o K G
      have O:(GK.holds (.ints [0,0,3]) (x 46) W):=o ⟨18,.data⟩ (by simp) rfl _ rfl;have U:=D.facts.1;have J:=D.facts.2;clear o;simp only[lay,Act.put,Ls]at G⊢;go_simp
      refine(yU 4 [0,0,3] (by simp) _ W (.inr (yE O))).mono ?_;rintro r w' ⟨rfl,I⟩
      exact G _ _ (D.next I) (Qm _ I _) rfl
    · intro x W D o K G
      have U:=D.facts.1;have J:=D.facts.2;clear o;simp only[lay,Act.put,Ls]at G⊢;go_simp
      exact G _ _ (D.alloc _) (Qr _ _ _) ⟨W.heap.size,rfl,Wn _ _⟩
    · intro x W D o K G
      have O:(GK.holds (.ints [2]) (x 48) W):=o ⟨20,.data⟩ (by simp) rfl _ rfl;have U:=D.facts.1;have J:=D.facts.2;clear o;simp only[lay,Act.put,Ls]at G⊢;go_simp
      refine(yU 14 [2] (by simp) _ W (.inr (yE O))).mono ?_;rintro r w' ⟨rfl,I⟩
      exact G _ _ (D.next I) (Qm _ I _) rfl
    · intro x W D o K G
      have U:=D.facts.1;have J:=D.facts.2;clear o;simp only[lay,Act.put,Ls]at G⊢;go_simp
      exact G _ _ (D.alloc _) (Qr _ _ _) ⟨W.heap.size,rfl,Wn _ _⟩
    · intro x W D o K G
      have O:(GK.holds (.ints [3]) (x 50) W):=o ⟨22,.data⟩ (by simp) rfl _ rfl;have U:=D.facts.1;have J:=D.facts.2;clear o;simp only[lay,Act.put,Ls]at G⊢;go_simp
      refine(yU 14 [3] (by simp) _ W (.inr (yE O))).mono ?_;rintro r w' ⟨rfl,I⟩
      exact G _ _ (D.next I) (Qm _ I _) rfl
    · intro x W D o K G
      have U:=D.facts.1;have J:=D.facts.2;clear o;simp only[lay,Act.put,Ls]at G⊢;go_simp
      exact G _ _ (D.alloc _) (Qr _ _ _) ⟨W.heap.size,rfl,Wn _ _⟩
    · intro x W D o K G
      have O:(GK.holds (.ints [1,3,14]) (x 52) W):=o ⟨24,.data⟩ (by simp) rfl _ rfl;have U:=D.facts.1;have J:=D.facts.2;clear o;simp only[lay,Act.put,Ls]at G⊢;go_simp
      refine(yU 6 [1,3,14] (by simp) _ W (.inr (yE O))).mono ?_;rintro r w' ⟨rfl,I⟩
      exact G _ _ (D.next I) (Qm _ I _) rfl
    · intro x W D o K G
      have U:=D.facts.1;have J:=D.facts.2;clear o;simp only[lay,Act.put,Ls]at G⊢;go_simp
      exact G _ _ (D.alloc _) (Qr _ _ _) ⟨W.heap.size,rfl,Wn _ _⟩
    · intro x W D o K G
      have O:(GK.holds (.ints [1,3]) (x 54) W):=o ⟨26,.data⟩ (by simp) rfl _ rfl;have U:=D.facts.1;have J:=D.facts.2;clear o;simp only[lay,Act.put,Ls]at G⊢;go_simp
      refine(yU 15 [1,3] (by simp) _ W (.inr (yE O))).mono ?_;rintro r w' ⟨rfl,I⟩
      exact G _ _ (D.next I) (Qm _ I _) rfl
    · intro x W D o K G
      have U:=D.facts.1;have J:=D.facts.2;clear o;simp only[lay,Act.put,Ls]at G⊢;go_simp
      exact G _ _ (D.alloc _) (Qr _ _ _) ⟨W.heap.size,rfl,Wn _ _⟩
    · intro x W D o K G
      have O:(GK.holds (.ints [0,0,11]) (x 56) W):=o ⟨28,.data⟩ (by simp) rfl _ rfl;have U:=D.facts.1;have J:=D.facts.2;clear o;simp only[lay,Act.put,Ls]at G⊢;go_simp
      refine(yU 4 [0,0,11] (by simp) _ W (.inr (yE O))).mono ?_;rintro r w' ⟨rfl,I⟩
      exact G _ _ (D.next I) (Qm _ I _) rfl
    · intro x W D o K G
      have U:=D.facts.1;have J:=D.facts.2;clear o;simp only[lay,Act.put,Ls]at G⊢;go_simp
      refine(yU 16 [] (by simp) _ W (.inl ⟨rfl,rfl⟩)).mono ?_;rintro r w' ⟨rfl,I⟩
      exact G _ _ (D.next I) (Qm _ I _) rfl
    · intro x W D o K G
      have O:(GK.holds (.val (InstV.val ⟨1,0,0,0⟩)) (x 29) W):=o ⟨1,.data⟩ (by simp) rfl _ rfl;have g1:(GK.holds (.val (InstV.val ⟨1,1,k,0⟩)) (x 33) W):=o ⟨5,.data⟩ (by simp) rfl _ rfl;have g2:(GK.holds (.val (InstV.val ⟨1,2,1,0⟩)) (x 35) W):=o ⟨7,.data⟩ (by simp) rfl _ rfl;have g3:(GK.holds (.val (InstV.val ⟨3,0,1,5⟩)) (x 37) W):=o ⟨9,.data⟩ (by simp) rfl _ rfl;have g4:(GK.holds (.val (InstV.val ⟨4,0,0,9⟩)) (x 39) W):=o ⟨11,.data⟩ (by simp) rfl _ rfl;have g5:(GK.holds (.val (InstV.val ⟨10,0,1,0⟩)) (x 41) W):=o ⟨13,.data⟩ (by simp) rfl _ rfl;have g6:(GK.holds (.val (InstV.val ⟨14,1,0,0⟩)) (x 43) W):=o ⟨15,.data⟩ (by simp) rfl _ rfl;have g7:(GK.holds (.val (InstV.val ⟨2,0,2,0⟩)) (x 45) W):=o ⟨17,.data⟩ (by simp) rfl _ rfl;have g8:(GK.holds (.val (InstV.val ⟨4,0,0,3⟩)) (x 47) W):=o ⟨19,.data⟩ (by simp) rfl _ rfl;have g9:(GK.holds (.val (InstV.val ⟨14,2,0,0⟩)) (x 49) W):=o ⟨21,.data⟩ (by simp) rfl _ rfl;have ac:(GK.holds (.val (InstV.val ⟨14,3,0,0⟩)) (x 51) W):=o ⟨23,.data⟩ (by simp) rfl _ rfl;have ab:(GK.holds (.val (InstV.val ⟨6,1,3,14⟩)) (x 53) W):=o ⟨25,.data⟩ (by simp) rfl _ rfl;have ad:(GK.holds (.val (InstV.val ⟨15,1,3,0⟩)) (x 55) W):=o ⟨27,.data⟩ (by simp) rfl _ rfl;have ae:(GK.holds (.val (InstV.val ⟨4,0,0,11⟩)) (x 57) W):=o ⟨29,.data⟩ (by simp) rfl _ rfl;have aa:(GK.holds (.val (InstV.val ⟨16,0,0,0⟩)) (x 58) W):=o ⟨30,.data⟩ (by simp) rfl _ rfl;change x 29=_ at O
      change x 33=_ at g1
      change x 35=_ at g2
      change x 37=_ at g3
      change x 39=_ at g4
      change x 41=_ at g5
      change x 43=_ at g6
      change x 45=_ at g7
      change x 47=_ at g8
      change x 49=_ at g9
      change x 51=_ at ac
      change x 53=_ at ab
      change x 55=_ at ad
      change x 57=_ at ae
      change x 58=_ at aa
      have U:=D.facts.1;have J:=D.facts.2;clear o;unfold InstV.val at O g1 g2 g3 g4 g5 g6 g7 g8 g9 ac ab ad ae aa;simp only[lay,Act.put,Ls,O,g1,g2,g3,g4,g5,g6,g7,g8,g9,ac,ab,ad,ae,aa]at G⊢;go_simp
      exact G _ _ (D.alloc _) (Qr _ _ _) ⟨W.heap.size,rfl,Wn _ _⟩
    · intro x W D o K G
      have O:(GK.holds (.insts (qen k)) (x 59) W):=o ⟨31,.data⟩ (by simp) rfl _ rfl;have U:=D.facts.1;have J:=D.facts.2;clear o;simp only[lay,Act.put,Ls]at G⊢;go_simp
      exact G _ _ D (fun _ _ _ h=>h) O
  case refine_3=>
    intro x W D hG;have O:(GK.holds (.insts (qen k)) (x 8) W):=hG 32 _ rfl;clear hG;have V:=(aj.out W D.below).more O;obtain⟨b8,e8, -⟩:=O;have ah:x 8= .slice (some ⟨b8,0,none⟩) 15 15:=e8;clear e8 D;simp only[lay,Act.put,Ls];rw[ah]at V⊢;iterate 8
      go_wp2_with fail
      refine JD (by first|exact JH|exact zG (Wn _ _)|exact zF (Wn _ _)|exact zH (Wn _ _)|exact zG (qn _ _ (by simp))|exact zF (qn _ _ (by simp))|exact zH (qn _ _ (by simp))) (by simp) (fun w' I=>?_);replace V:=V.next (by first|exact qB _ I|exact I)
      clear I
    go_wp2_with fail
    replace V:=(V.next (Br.alloc Nl _)).more (L:=qiH) ⟨_,rfl,Wn _ _⟩
    refine JD (by first|exact JH|exact zG (Wn _ _)|exact zF (Wn _ _)|exact zH (Wn _ _)|exact zG (qn _ _ (by simp))|exact zF (qn _ _ (by simp))|exact zH (qn _ _ (by simp))) (by simp) (fun w' I=>?_);replace V:=V.next (by first|exact qB _ I|exact I)
    clear I;iterate 18
      go_wp2_with fail
      refine JD (by first|exact JH|exact zG (Wn _ _)|exact zF (Wn _ _)|exact zH (Wn _ _)) (by simp) (fun w' I=>?_);replace V:=V.next (by first|exact qB _ I|exact I)
      clear I
    go_wp2_with fail
    replace V:=(V.next (Br.alloc Nl _)).more (L:=qiL bq n) ⟨_,rfl,Wn _ _⟩
    refine JD (by first|exact JH|exact zG (Wn _ _)|exact zF (Wn _ _)|exact zH (Wn _ _)|exact zG (qn _ _ (by simp))|exact zF (qn _ _ (by simp))|exact zH (qn _ _ (by simp))) (by simp) (fun w' I=>?_);replace V:=V.next (by first|exact qB _ I|exact I)
    clear I;iterate 2
      go_wp2_with fail
      refine JD (by first|exact JH|exact zG (Wn _ _)|exact zF (Wn _ _)|exact zH (Wn _ _)) (by simp) (fun w' I=>?_);replace V:=V.next (by first|exact qB _ I|exact I)
      clear I
    obtain⟨c0,c1,c2,c3,c4,hr⟩:=V.res;have hx:=V.box;rw[X]at hx hr;obtain⟨cx,fx⟩:=Yt hx;obtain⟨cr,fr⟩:=Yt hr;have J:=V.size;rw[X]at J;have ak:bx<w'.heap.size:=by omega
    have HI:=hid V;have HR:=hid hr;clear V hx hr;go_wp2
    have h5:=((((HI.out.set (p:=⟨bx+1,0,none⟩) (.slice (some ⟨w'.heap.size+1,0,none⟩) 4 4) (by simp[X]) (by simp) rfl).set (p:=⟨bx+1,1,none⟩) (.slice (some ⟨w'.heap.size+1+1,0,none⟩) 3 3) (by simp[X]) (by simp) rfl).set (p:=⟨bx+1,2,none⟩) (.int .i64 1) (by simp[X]) (by simp) rfl).set (p:=⟨bx+1,3,none⟩) (.int .i64 0) (by simp[X]) (by simp) rfl).set (p:=⟨bx+1,4,none⟩) (.int .i64 bq) (by simp[X]) (by simp) rfl;have h6:=(h5.next (Br.alloc Nl (.cells (qcw qfB).toArray 243 (0,0)))).more (v:= .slice (some ⟨w'.heap.size,0,none⟩) 3 3) (L:=qfB) ⟨_,rfl,qn _ _ (by simp)⟩;have ai:=block_setCell (i:=4) (block_setCell (i:=3) (block_setCell (i:=2) (block_setCell (i:=1) (block_setCell (i:=0) HR.out (.slice (some ⟨w'.heap.size+1,0,none⟩) 4 4)) (.slice (some ⟨w'.heap.size+1+1,0,none⟩) 3 3)) (.int .i64 1)) (.int .i64 0)) (.int .i64 bq);refine Bp (zp rfl rfl rfl ((Bh _ _ _ (by simp;omega)).trans ((Bh _ _ _ (by simp;omega)).trans ((Bh _ _ _ (by simp;omega)).trans ai))) rfl) rfl ⟨_,rfl,⟨_,_,_,_,_,_,rfl,(Bh _ _ _ (by simp)).trans (qn _ _ (by simp)),qn _ _ (by simp),(h6.next ((Br.alloc Nl _).alloc (by simp) _)).held _ (.tail _ (.tail _ (.tail _ (.head _)))),(h6.next ((Br.alloc Nl _).alloc (by simp) _)).held _ (.tail _ (.tail _ (.head _))),(h6.next ((Br.alloc Nl _).alloc (by simp) _)).held _ (.tail _ (.head _)),(h6.next ((Br.alloc Nl _).alloc (by simp) _)).held _ (.head _)⟩,(h6.next ((Br.alloc Nl _).alloc (by simp) _)).below⟩
theorem qby {W:World}{b:Nat}{Y c1 c2 U c4:Value}{T:TypeId}(h:W.heap[b]? =some (Obj.cells #[Y,c1,c2,U,c4] T (0,0)))(I J G o D:Value):
    (((((W.setCell ⟨b,0,none⟩ I).setCell ⟨b,1,none⟩ J).setCell ⟨b,2,none⟩ G).setCell ⟨b,3,none⟩ o).setCell ⟨b,4,none⟩ D).heap[b]? =some (Obj.cells #[I,J,G,o,D] T (0,0)):=by
  have V:=block_setCell (i:=0) h I;have Z:=block_setCell (i:=1) V J;have O:=block_setCell (i:=2) Z G;have X:=block_setCell (i:=3) O o;have h4:=block_setCell (i:=4) X D;exact h4
theorem zh {w W:World}{n b o:Nat}{v:Value}(h:Below n w W)(D:n≤b):Below n w (W.setCell ⟨b,o,none⟩ v):=
  h.trans ⟨rfl,rfl,rfl,by simp,fun g G=>Below.heap_setCell _ _ _ _ (by show g≠b;omega)⟩
theorem Jc {w W:World}{n b:Nat}(h:Below n w W)(o:n≤b)(I D G J O:Value):
    Below n w (((((W.setCell ⟨b,0,none⟩ I).setCell ⟨b,1,none⟩ D).setCell ⟨b,2,none⟩ G).setCell ⟨b,3,none⟩ J).setCell ⟨b,4,none⟩ O):=
  zh (zh (zh (zh (zh h o) o) o) o) o
def Y1 (n k q:Int):Int:=if QJ k q then(if 0≤n∧n≤1024 then 0 else 1) else 150
theorem JV {n k q:Int}(h: ¬QJ k q):Y1 n k q=150:=by unfold Y1;rw[if_neg h]
theorem ZE {n k q:Int}(h:QJ k q)(o: ¬(0≤n∧n≤1024)):Y1 n k q=1:=by unfold Y1;rw[if_pos h,if_neg o]
theorem qfO {n k q:Int}(h:QJ k q)(o:0≤n∧n≤1024):Y1 n k q=0:=by unfold Y1;rw[if_pos h,if_pos o]
theorem qbc {n k q z:Int}(h:Y1 n k q=z):Ending.returned (.tuple #[zq,.int .i64 z])= .returned (.tuple #[zq,.int .i64 (Y1 n k q)]):=by rw[h]
theorem qeM (n k q:Int)(J: ¬QJ k q)(w:World):Calls Tryz.prog 118 #[.int .i64 n,.agg #[.int .i64 k,.int .i64 q]] w fun e w'=>e= .returned (.tuple #[zq,.int .i64 (Y1 n k q)])∧Below w.heap.size w w':=by
  have D:=hid (YV k q);rw[show Qu k q=150 by unfold Qu;rw[if_neg J]]at D;have U:=hid (qbc (JV (n:=n) J));obtain⟨Z,I⟩:=Ex (yS k q);rw[I]at D;obtain⟨bx,Y⟩:=Ex w.heap.size;go_enter Tryz.func118,Tryz.ntmps118
  go_wp2_with fail
  refine(D.out _).mono ?_;rintro r w2 ⟨rfl,o⟩;have O:=o.size;simp at O
  have G:w2.heap[bx+1]? =_:=(o.block _ (by simp;omega)).trans (qn _ _ (by simp;omega));obtain⟨cr,fr⟩:=Yt G;have V:=hid G;have X:=hid (qB _ (qB _ o));clear G o;go_wp2
  refine Bp (zp rfl rfl rfl (qby V.out _ _ _ _ _) rfl) rfl ⟨?_,Jc X.out (by omega) _ _ _ _ _⟩;exact U.out
theorem qeL (n k q:Int)(J:QJ k q)(hn:n<0)(w:World):Calls Tryz.prog 118 #[.int .i64 n,.agg #[.int .i64 k,.int .i64 q]] w fun e w'=>e= .returned (.tuple #[zq,.int .i64 (Y1 n k q)])∧Below w.heap.size w w':=by
  have D:=hid (YV k q);rw[show Qu k q=0 by unfold Qu;rw[if_pos J]]at D;have U:=hid (qbc (ZE (n:=n) J (by omega)));obtain⟨Z,I⟩:=Ex (yS k q);rw[I]at D;obtain⟨bx,Y⟩:=Ex w.heap.size;go_enter Tryz.func118,Tryz.ntmps118
  go_wp2_with fail
  refine(D.out _).mono ?_;rintro r w2 ⟨rfl,o⟩;have O:=o.size;simp at O
  have G:w2.heap[bx+1]? =_:=(o.block _ (by simp;omega)).trans (qn _ _ (by simp;omega));obtain⟨cr,fr⟩:=Yt G;have V:=hid G;have X:=hid (qB _ (qB _ o));clear G o;go_wp2
  refine Bp (zp rfl rfl rfl (qby V.out _ _ _ _ _) rfl) rfl ⟨?_,Jc X.out (by omega) _ _ _ _ _⟩;exact U.out
theorem qeK (n k q:Int)(J:QJ k q)(hn:1024<n)(w:World):Calls Tryz.prog 118 #[.int .i64 n,.agg #[.int .i64 k,.int .i64 q]] w fun e w'=>e= .returned (.tuple #[zq,.int .i64 (Y1 n k q)])∧Below w.heap.size w w':=by
  have D:=hid (YV k q);rw[show Qu k q=0 by unfold Qu;rw[if_pos J]]at D;have U:=hid (qbc (ZE (n:=n) J (by omega)));obtain⟨Z,I⟩:=Ex (yS k q);rw[I]at D;obtain⟨bx,Y⟩:=Ex w.heap.size;go_enter Tryz.func118,Tryz.ntmps118
  go_wp2_with fail
  refine(D.out _).mono ?_;rintro r w2 ⟨rfl,o⟩;have O:=o.size;simp at O
  have G:w2.heap[bx+1]? =_:=(o.block _ (by simp;omega)).trans (qn _ _ (by simp;omega));obtain⟨cr,fr⟩:=Yt G;have V:=hid G;have X:=hid (qB _ (qB _ o));clear G o;go_wp2
  refine Bp (zp rfl rfl rfl (qby V.out _ _ _ _ _) rfl) rfl ⟨?_,Jc X.out (by omega) _ _ _ _ _⟩;exact U.out
theorem SysOk.ex {W:World}{v:Value}{n k q o:Int}(D:yS k q=o)(h:SysOk W v n k q): ∃b r:Nat,v= .agg #[.slice (some ⟨b,0,none⟩) 4 4,.slice (some ⟨r,0,none⟩) 3 3,.int .i64 1,.int .i64 0,.int .i64 o]:=by subst D;obtain⟨b,r,J,I,G,O,e, -⟩:=h;exact⟨b,r,e⟩
theorem qiO {k l:IntKind}{a b c d:Int}(h:a=b)(o:c=d):Ending.returned (.tuple #[.int k a,.int l c])= .returned (.tuple #[.int k b,.int l d]):=by rw[h,o]
def SysAny (W:World)(v:Value)(n k q:Int):Prop:=(Y1 n k q=0∧SysOk W v n k q)∨(Y1 n k q≠0∧v=zq)
theorem SysAny.form {W:World}{v:Value}{n k q:Int}(h:SysAny W v n k q):(∃b r:Nat,Y1 n k q=0∧v= .agg #[.slice (some ⟨b,0,none⟩) 4 4,.slice (some ⟨r,0,none⟩) 3 3,.int .i64 1,.int .i64 0,.int .i64 (yS k q)])∨(Y1 n k q≠0∧v=zq):=by
  rcases h with⟨o,h⟩|h
  · obtain⟨b,r,e⟩:=SysOk.ex rfl h
    exact .inl ⟨b,r,o,e⟩
  · exact .inr h
theorem qeO (n k q:Int):(QJ k q∧0≤n∧n≤1024∧Y1 n k q=0)∨(Y1 n k q≠0):=by
  by_cases h:QJ k q
  · by_cases o:0≤n∧n≤1024
    · exact .inl ⟨h,o.1,o.2,qfO h o⟩
    · right;rw[ZE h o];decide
  · right;rw[JV h];decide
theorem qdW (k q:Int)(h:QJ k q):1≤k∧k≤256∧0≤yS k q∧yS k q≤64:=by
  obtain⟨D,o,G,I⟩:=h;refine⟨D,o,?_⟩;unfold yS;rw[if_pos ⟨D,o,G,I⟩];omega
def qhX (n k q:Int):Int:=if Y1 n k q=0 then 23+8*k+4*yS k q+15*n else 0
theorem qeN (n k q:Int)(w:World):Calls Tryz.prog 118 #[.int .i64 n,.agg #[.int .i64 k,.int .i64 q]] w fun e w'=> ∃v,e= .returned (.tuple #[v,.int .i64 (Y1 n k q)])∧SysAny w' v n k q∧Below w.heap.size w w':=by
  by_cases o:QJ k q
  · by_cases J:n<0
    · refine(qeL n k q o J w).mono ?_;rintro e w' ⟨rfl,D⟩
      exact⟨_,rfl,.inr ⟨by rw[ZE o (by omega)];decide,rfl⟩,D⟩
    by_cases G:1024<n
    · refine(qeK n k q o G w).mono ?_;rintro e w' ⟨rfl,D⟩
      exact⟨_,rfl,.inr ⟨by rw[ZE o (by omega)];decide,rfl⟩,D⟩
    · refine(qgh n k q o (by omega) (by omega) w).mono ?_;rintro e w' ⟨v,rfl,O,D⟩
      have I:Y1 n k q=0:=qfO o (by omega);exact⟨v,by rw[I],.inl ⟨I,O⟩,D⟩
  · refine(qeM n k q o w).mono ?_;rintro e w' ⟨rfl,D⟩
    exact⟨_,rfl,.inr ⟨by rw[JV o];decide,rfl⟩,D⟩
theorem qgZ (n k q:Int)(w:World):Calls Tryz.prog 82 #[.int .i64 n,.agg #[.int .i64 k,.int .i64 q]] w fun e w'=>e= .returned (.tuple #[.int .i64 (qhX n k q),.int .i64 (Y1 n k q)])∧Below w.heap.size w w':=by
  have HS:=hid (qeN n k q);have HV:=hid (YV k q);have HB:=hid (qdW k q);have HC:=hid (qeO n k q);obtain⟨bd,D⟩:=Ex (qhX n k q);rw[D];obtain⟨bx,ab⟩:=Ex w.heap.size;go_enter Tryz.func82,Tryz.ntmps82
  go_wp2_with fail
  refine(HS.out _).mono ?_;rintro r w2 ⟨v,rfl,hv,J⟩;have ad:=J.size;simp at ad
  have V:w2.heap[bx]? =_:=(J.block _ (by simp;omega)).trans (qn _ _ ab.symm);obtain⟨cx,fx⟩:=Yt V;have ak:bx<w2.heap.size:=by omega
  have HX:=hid V;have O:=hid (qB _ J);clear V J;have af:=hv.form;clear hv;rcases af with⟨pb,rb,o,rfl⟩|⟨o,rfl⟩
  · obtain⟨X,an,ah, -⟩:QJ k q∧0≤n∧n≤1024∧Y1 n k q=0:=by
      rcases HC.out with h|h
      · exact h
      · exact absurd o h
    obtain⟨ao,aj,ac,aa⟩:=HB.out X;have G:=HV.out;rw[show Qu k q=0 by unfold Qu;rw[if_pos X]]at G;rw[o];have Z:23+8*k+4*yS k q+15*n=bd:=by rw[←D];unfold qhX;rw[if_pos o]
    have HZ:=hid o.symm;clear D HB HS HV HC X o;generalize yS k q=bq at Z ac aa G⊢;have ag:=hid G;have Y:=hid Z;clear G Z;go_wp2_with fail
    refine(ag.out _).mono ?_;rintro r w3 ⟨rfl,I⟩;have U:=(I.block bx (by simp;omega)).trans ((Bh _ _ _ (by omega)).trans HX.out);obtain⟨am,ai⟩:=Yt U;have ae:=hid (O.out.trans (qB _ (I.mono (by simp)) |>.mono O.out.size));have al:bx<w3.heap.size:=by have:=I.size;simp at this;omega
    clear cx fx I U;go_wp2
    all_goals exact Bp (results_tmp2 rfl _ _ _) rfl ⟨Eq.trans (b:= .returned (.tuple #[.int .i64 (23+8*k+4*bq+15*n),.int .i64 0])) rfl (qiO Y.out HZ.out),ae.out⟩
  · unfold zq
    have Y:=hid (show 0=bd by rw[←D];unfold qhX;rw[if_neg o]);go_wp2
    exact Bp (results_tmp2 rfl _ _ _) rfl ⟨Eq.trans (b:= .returned (.tuple #[.int .i64 0,.int .i64 (Y1 n k q)])) rfl (qbl Y.out),O.out.alloc O.out.size _⟩
theorem qas (w:World):Calls Tryz.prog 48 #[] w fun e w'=>e= .returned (.bool true)∧Below w.heap.size w w':=by
  have H:=hid (qgZ 1 1 1);rw[show qhX 1 1 1=54 by decide,show Y1 1 1 1=0 by decide]at H;go_enter Tryz.func48,Tryz.ntmps48
  go_wp2_with fail
  refine(H.out _).mono ?_;rintro r w2 ⟨rfl,o⟩;have D:=hid o;clear o;go_wp2
  go_ret
  exact⟨rfl,D.out⟩
end Go.Proofs.YthjoojnlnlmljaaGreat
