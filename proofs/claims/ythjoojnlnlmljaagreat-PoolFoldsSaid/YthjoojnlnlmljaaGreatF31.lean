/- Lists of bytes in memory; all of them, one behind the other. No condition. -/
import Derived.Test.YthjoojnlnlmljaaGreatF24
import Derived.Test.YthjoojnlnlmljaaGreatF21
import Derived.Great.BuildSlice
import Derived.Test.YthjoojnlnlmljaaGreatF04
import Derived.Test.YthjoojnlnlmljaaGreatF29
import Derived.Test.YthjoojnlnlmljaaGreatF22
import Derived.Test.YthjoojnlnlmljaaGreatF14
import Derived.Test.YthjoojnlnlmljaaGreatF17
set_option linter.all false
set_option maxRecDepth 100000
set_option maxHeartbeats 8000000
namespace Go.Proofs.YthjoojnlnlmljaaGreat
open Go.ChangeShapes Go.WideShapes Go.ChangeAt Go.RowKit Go.Joins Go.Shelf Go.Maps
open Go.Lib (hid)
attribute [local go_sem] Oper.semAt_some
structure KB (B:Nat)(w w':World):Prop where
 os:w'.os=w.os
 tape:w'.tape=w.tape
 output:w'.output=w.output
 size:w.heap.size≤w'.heap.size
 block: ∀k:Nat,k<B→w'.heap[k]? =w.heap[k]?
 bytes: ∀(k:Nat) (c:Array Value),w.heap[k]? =some (.cells c 5 (0,0))→w'.heap[k]? =some (.cells c 5 (0,0))
namespace KB
variable {B:Nat} {w w' w'':World}
theorem refl (B:Nat)(w:World):KB B w w:=⟨rfl,rfl,rfl,Nat.le_refl _,fun _ _=>rfl,fun _ _ h=>h⟩
theorem trans (h:KB B w w')(k:KB B w' w''):KB B w w'':=⟨k.os.trans h.os,k.tape.trans h.tape,k.output.trans h.output,Nat.le_trans h.size k.size,fun j o=>(k.block j o).trans (h.block j o),fun j c q=>k.bytes j c (h.bytes j c q)⟩
theorem of_below (h:Below w.heap.size w w')(D:B≤w.heap.size):KB B w w':=⟨h.os,h.tape,h.output,h.size,fun k q=>h.block k (by omega),fun k c o=>(h.block k (Ai o).1).trans o⟩
theorem of_but {g:Nat}{c:Array Value}{T:TypeId}{fr:Nat×Nat}(h:But g w w')(O:B≤w.heap.size)(I:B≤g)(D:w.heap[g]? =some (.cells c T fr))(q:T≠5):KB B w w':=
 ⟨h.os,h.tape,h.output,h.size,fun k J=>h.block k (by omega) (by omega),fun k G o=>by
  rw[h.block k (Ai o).1 ?_];exact o;rintro rfl
  rw[D]at o;simp only[Option.some.injEq,Obj.cells.injEq]at o;exact q o.2.1⟩
theorem below (h:KB B w w'):Below B w w':=⟨h.os,h.tape,h.output,h.size,h.block⟩
end KB
theorem Fresh.kb {B b:Nat}{w w':World}{x:Value}{z:List Int}(h:Fresh B w x z)(k:KB b w w'):Fresh B w' x z:=by
 rcases h with h|⟨g,o,q,e,I,D,G⟩
 ·exact .inl h
 ·exact .inr ⟨g,o,q,e,I,k.bytes _ _ D,G⟩
theorem Zb {B n:Nat}{w:World}{x:Value}{z:List Int}(h:w.ownsRow B 5 1 x n (z.map qp)):Fresh B w x z:=by
 have q:z.length=n:=by have:=h.1;simpa using this
 rcases h.2 with⟨rfl,U⟩|⟨g,o,D,rfl,J,G,S,I,V,O⟩
 ·exact .inl ⟨List.eq_nil_of_length_eq_zero (by omega),rfl⟩
 ·exact .inr ⟨g,o,D,by rw[q],J,G,by omega,by omega,I,by rw[q];simpa using O⟩
theorem own_kb {B b n:Nat}{w w':World}{x:Value}{D:List Value}(h:w.ownsRow B 5 1 x n D)(k:KB b w w'):w'.ownsRow B 5 1 x n D:=by
 refine⟨h.1,?_⟩;rcases h.2 with o|⟨g,q,G,e,J,o,I⟩
 ·exact .inl o
 ·exact .inr ⟨g,q,G,e,J,k.bytes _ _ o,I⟩
def OwnB (B:Nat)(w:World)(x:Value)(z:List Int):Prop:=(∀a∈z,0≤a∧a≤255)∧Fresh B w x z
theorem OwnB.kb {B b:Nat}{w w':World}{x:Value}{z:List Int}(h:OwnB B w x z)(k:KB b w w'):OwnB B w' x z:=⟨h.1,h.2.kb k⟩
theorem OwnB.hold {B:Nat}{w:World}{x:Value}{z:List Int}(h:OwnB B w x z):Hold w x z:=h.2.hold h.1
theorem OwnB.le {B b:Nat}{w:World}{x:Value}{z:List Int}(h:OwnB B w x z)(o:b≤B):OwnB b w x z:=⟨h.1,h.2.le o⟩
theorem OwnB.one {B:Nat}{w:World}{x:Value}{z:List Int}(h:OwnB B w x z):x.oneCell'=true:=by
 rcases h.2 with⟨-,rfl⟩|⟨g,o,q,rfl, -⟩<;>rfl
def Qi (L:List (List Int))(i:Nat):List Int:=L.getD i []
def ListO (B:Nat)(w:World)(v:Value)(L:List (List Int)):Prop:=
 ∃vs,w.ownsRow B 24 1 v L.length vs∧ ∀i,i<L.length→OwnB B w (vs.getD i undef) (Qi L i)
def ListH (w:World)(v:Value)(L:List (List Int)):Prop:=
 ∃a cap,v= .slice a L.length cap∧L.length≤cap∧(cap:Int)≤9223372036854775807∧(L=[]∨ ∃g off,a=some ⟨g,off,none⟩∧g<w.heap.size∧ ∀i,i<L.length→ ∃x,w.cell? ⟨g,off+i,none⟩=some x∧Hold w x (Qi L i))
theorem ListO.hold {B:Nat}{w:World}{v:Value}{L:List (List Int)}(h:ListO B w v L):ListH w v L:=by
 obtain⟨vs,q,U⟩:=h;have Y:vs.length=L.length:=by have:=q.1;simpa using this
 rcases q.2 with⟨rfl,G⟩|⟨g,D,I,rfl,X,o,J,O,Z,S⟩
 ·exact⟨none,0,by rw[G],by omega,by omega,.inl (List.eq_nil_of_length_eq_zero G)⟩
 ·refine⟨_,D,rfl,J,by unfold maxLen at O;omega,.inr ⟨g,0,rfl,(Ai o).1,fun i V=>⟨vs.getD i undef,?_,(U i V).hold⟩⟩⟩;rw[qa o (0+i),Nat.zero_add];have e:I.toList[i]? =vs[i]? :=by rw[←S,List.getElem?_take,if_pos (by omega)]
  rw[←Array.getElem?_toList,e,Lg,List.getElem?_eq_getElem (by omega)];rfl
theorem ListH.below {w w':World}{v:Value}{L:List (List Int)}(h:ListH w v L)(o:Below w.heap.size w w'):ListH w' v L:=by
 obtain⟨a,D,rfl,J,I,q⟩:=h;refine⟨a,D,rfl,J,I,?_⟩;rcases q with q|⟨g,off,rfl,G,S⟩
 ·exact .inl q
 ·refine .inr ⟨g,off,rfl,Nat.lt_of_lt_of_le G o.size,fun i V=>?_⟩;obtain⟨x,U,O⟩:=S i V;exact⟨x,(o.cell (p:=⟨g,off+i,none⟩) G).trans U,O.below o⟩
theorem qgT {L:List (List Int)}{i:Nat}(o:i<L.length):Qi L i∈L:=by
 unfold Qi;rw[Lg,List.getElem?_eq_getElem o];exact List.getElem_mem o
theorem Jt {L:List (List Int)}{k:Nat}(o:k<L.length):(L.take (k+1)).flatten=(L.take k).flatten++Qi L k:=by
 have e:L.take (k+1)=L.take k++[Qi L k]:=by
  unfold Qi;rw[List.take_succ,Lg,List.getElem?_eq_getElem o];rfl
 rw[e,List.flatten_append];simp
theorem qcP (L:List (List Int))(k:Nat):(L.take k).flatten.length≤L.flatten.length:=by
 conv=>rhs;rw[←List.take_append_drop k L,List.flatten_append,List.length_append]
 omega
theorem joined_ok (L:List (List Int))(v:Value)(w:World)(h:ListH w v L)(X:L.flatten.length≤70368744177664):
  Calls Tryz.prog 66 #[v] w fun e w'=> ∃u,e= .returned u∧w'.ownsRow w.heap.size 5 1 u L.flatten.length (L.flatten.map qp)∧Below w.heap.size w w':=by
 obtain⟨i0,hi,ab,Y,aa⟩:=info_parts Qy;obtain⟨O,D⟩:=Ex w.heap.size;have HH:=hid h;obtain⟨a,ag,rfl,ah,ai, -⟩:=h;have af:(L.length:Int)≤9223372036854775807:=by omega
 have HN:=hid X;clear X;go_enter Tryz.func66,Tryz.ntmps66
 go_wp2_with fail
 go_loopw [3,8] (fun s i wr=> ∃k:Nat,i= .int .i64 (k:Nat)∧k≤L.length∧wr.ownsRow O 5 1 s (L.take k).flatten.length ((L.take k).flatten.map qp)∧Below O w wr) (fun _ i _=>L.length - (intOf i).toNat)
 case atStart=>exact⟨0,rfl,Nat.zero_le _,Wo _ _ _ _,Below.refl _ _⟩
 case round=>
  obtain⟨k,rfl,hk,G,q⟩:=hrel;by_cases o:k<L.length
  case pos=>
   obtain⟨a',ad,e, -, -,Z⟩:=HH.out;obtain⟨g,off,rfl,h4,h5⟩:=Z.resolve_left (fun e=>by rw[e]at o;simp at o);simp only[Value.slice.injEq]at e;obtain⟨rfl, -, -⟩:=e;obtain⟨x,hx,S⟩:=h5 k o;have c0:wr.cell? ⟨g,off+k,none⟩=some x:=(q.cell (p:=⟨g,off+k,none⟩) (show g<O by omega)).trans hx;have aj:g<wr.heap.size:=by have:=q.size;omega
   have HX:=hid (S.below (D▸q)).src;have U:=hid G;have V:=hid q;have I:=qcP L (k+1);rw[Jt o,List.length_append]at I;have HF:=hid I;have ae:(k:Int)<L.length:=by omega
   clear hx S h5 h4 Z G q I;go_wp2_with (at_builtin;refine Qh rfl _ _ _ rfl w O D.symm V.out 5 i0 (.int .u8 0) 1 Tryz.underlying24 hi ab Y aa rfl _ _ _ rfl U.out _ _ _ rfl HX.out (by have:=HF.out;have:=HN.out;unfold maxLen;omega) (by have:=HF.out;have:=HN.out;omega) ?_;intro v' w' J ac)
   refine⟨⟨k+1,rfl,by omega,?_,ac⟩,by simp[intOf];omega⟩;rw[Jt o,List.length_append,List.map_append];exact J
  obtain rfl:k=L.length:=by omega
  rw[List.take_length]at G;have U:=hid G;have V:=hid q;clear G q;go_wp2
  go_ret
  exact⟨_,rfl,D▸U.out,D▸V.out⟩
theorem za {P:Program}{ops:Array Oper}{S:List Oper}{o:Oper}{a:Act}{Q:Exit→Act→World→Prop}{W:World}(ad:o.guard=none)(s x:Operand)(t:TypeId)
  (ho:o.op= .call { callee:= .builtin .append,args:= #[s,x],argTypes:= #[t,t] }) (B:Nat) (e:TypeId) (he:e≠5) (i:TypeInfo) (z:Value) (size D:Nat) (ht:P.underlying t=some (.slice e)) (hi:P.info? e=some i) (hz:i.zero=some z)
  (V:i.size=size) (ac:i.bytes=D) (ab:z.cells.size=size) (Y:0<size) (v:Value) (n:Nat) (X O:List Value) (T:TypeId) (hs:a.eval s=v) (G:W.ownsRow B e size v n X)
  (hx:a.eval x= .slice (some ⟨W.heap.size,0,none⟩) 1 1) (hl:O.length=size) (h1: ∀u∈O,u.oneCell'=true) (Z:n+1≤maxLen) (J:(n+1)*D≤140737488355328) (hB:B≤W.heap.size)
  (h: ∀v' w',w'.ownsRow B e size v' (n+1) (X++O)→KB B W w'→Spare (fun k=>v.ownBlock≠some k) W w'→wpList P ops Q S (a.put o.dst v') w'):wpList P ops Q (o::S) a (W.alloc (.cells O.toArray T)):=by
 refine wpList_append_own _ ad s x t ho B e i z size D ht hi hz V ac ab Y v n X hs (G.alloc _) ⟨W.heap.size,0,none⟩ 1 1 O hx (by omega) (fun j u hj=>?_) h1 Z J (by simp;omega) fun v' w' h2 h3 _=>?_
 ·rw[Go.WideShapes.add_plain,qa (Wn W _) (0+j),Nat.zero_add];simpa using hj
 have q:Spare (fun k=>v.ownBlock≠some k) W w':=(Spare.of_below _ (Br.alloc Nl _)).trans (Spare.of_grown h3) (fun _ _ h=>h);refine h v' w' h2 ⟨q.os,q.tape,q.output,q.size,fun k hk=>q.block k (by omega) (fun I=>?_),fun k c U=>?_⟩ q
 ·rcases G.2 with⟨rfl, -⟩|⟨g,aa,ae,rfl,h4, -⟩
  ·cases I
  ·simp only[Value.ownBlock,Option.some.injEq]at I;omega
 ·rw[q.block k (Ai U).1 (fun I=>?_)]
  ·exact U
  ·rcases G.2 with⟨rfl, -⟩|⟨g,aa,ae,rfl, -,h5, -⟩
   ·cases I
   ·simp only[Value.ownBlock,Option.some.injEq]at I;subst I;rw[h5]at U;simp only[Option.some.injEq,Obj.cells.injEq]at U;exact he U.2.1
theorem ListO.nil (B:Nat)(w:World):ListO B w (.slice none 0 0) []:=⟨[],Wo _ _ _ _,fun i o=>by simp at o⟩
theorem ListO.kb {B b:Nat}{w w':World}{v:Value}{L:List (List Int)}(h:ListO B w v L)(k:KB b w w')(O: ∀g,v.ownBlock=some g→w'.heap[g]? =w.heap[g]?):ListO B w' v L:=by
 obtain⟨vs,q,S⟩:=h;refine⟨vs,⟨q.1,?_⟩,fun i U=>(S i U).kb k⟩;rcases q.2 with o|⟨g,D,G,rfl,I,o,J⟩
 ·exact .inl o
 ·exact .inr ⟨g,D,G,rfl,I,(O g rfl).trans o,J⟩
theorem ListO.below {B:Nat}{w w':World}{v:Value}{L:List (List Int)}(h:ListO B w v L)(k:Below w.heap.size w w'):ListO B w' v L:=by
 refine h.kb (KB.of_below k (Nat.zero_le _)) fun g o=>?_
 obtain⟨vs,D, -⟩:=h;rcases D.2 with⟨rfl, -⟩|⟨J,G,I,rfl, -,q, -⟩
 ·cases o
 ·simp only[Value.ownBlock,Option.some.injEq]at o;subst o;exact k.block _ (Ai q).1
theorem ListO.le {B b:Nat}{w:World}{v:Value}{L:List (List Int)}(h:ListO B w v L)(o:b≤B):ListO b w v L:=by
 obtain⟨vs,G,q⟩:=h;exact⟨vs,ownsRow_le G o,fun i D=>(q i D).le o⟩
theorem ListO.snoc {B:Nat}{w w':World}{v' x:Value}{L:List (List Int)}{z:List Int}{vs:List Value}(O: ∀i,i<L.length→OwnB B w (vs.getD i undef) (Qi L i))(I:vs.length=L.length)(J:OwnB B w x z)
  (G:w'.ownsRow B 24 1 v' (L.length+1) (vs++[x])) (D:KB B w w'):ListO B w' v' (L++[z]):=by
 refine⟨vs++[x],by simpa using G,fun i S=>?_⟩;simp only[List.length_append,List.length_singleton]at S;by_cases h:i<L.length
 ·have q:(vs++[x]).getD i undef=vs.getD i undef:=by simp[Lg,List.getElem?_append_left (show i<vs.length by omega)]
  have o:Qi (L++[z]) i=Qi L i:=by simp[Qi,Lg,List.getElem?_append_left h]
  rw[q,o];exact(O i h).kb D
 ·obtain rfl:i=L.length:=by omega
  have q:(vs++[x]).getD L.length undef=x:=by simp[Lg,←I]
  have o:Qi (L++[z]) L.length=z:=by simp[Qi,Lg]
  rw[q,o];exact J.kb D
theorem Za:(Tryz.prog.info? 24).map (fun i=>(i.zero,i.size,i.bytes))=some (some (.slice none 0 0),1,24):=by kernel_rfl
theorem qbp {ops:Array Oper}{q:List Oper}{o:Oper}{G:Act}{w:World}{Q:Exit→Act→World→Prop}(U:o.guard=none)(x:Operand)(S:o.op= .buildSlice 67 1 #[(0,x)])(a:Option Addr)(n k:Nat)(V:G.eval x= .slice a n k)
  (h:wpList Tryz.prog ops Q q (G.put o.dst (.slice (some ⟨w.heap.size,0,none⟩) 1 1)) (w.alloc (.cells #[.slice a n k] 24))):wpList Tryz.prog ops Q (o::q) G w:=by
 obtain⟨O,J,I,D, -⟩:=info_parts Za;exact wpList_buildSlice U 67 24 1 _ S #[.slice a n k] O _ Tryz.underlying67 J I (by rw[D];decide) (by rw[D];decide) (by rw[D,show Array.range (1*1)= #[0] by decide];simp[V,Instr.fill,Value.cells]) h
end Go.Proofs.YthjoojnlnlmljaaGreat
namespace Go.Proofs.YthjoojnlnlmljaaGreat
open Go.ChangeShapes Go.WideShapes Go.ChangeAt Go.RowKit Go.Joins Go.Shelf Go.Maps
open Go.Lib (hid)
theorem qcJ {n d j:Nat}(I:1≤d):j<qU n d↔j*d<n:=by
 have q:=Nat.div_add_mod n d;have G:=Nat.mod_lt n (show 0<d by omega);unfold qU;split
 ·rename_i D;rw[D,Nat.add_zero]at q;conv=>rhs;rw[←q,Nat.mul_comm]
  exact(Nat.mul_lt_mul_left (show 0<d by omega)).symm
 ·constructor
  ·intro h;have o:j*d≤(n/d)*d:=Nat.mul_le_mul_right d (by omega);rw[Nat.mul_comm (n/d) d]at o;omega
  ·intro h;have o:j*d<(n/d+1)*d:=by rw[Nat.add_mul,Nat.one_mul,Nat.mul_comm (n/d) d];omega
   exact Nat.lt_of_mul_lt_mul_right o
def qfk {α:Type}(n:Nat)(L:List α)(i:Nat):List α:=(L.drop (i*n)).take n
def qb6 (f:Nat)(L:List (List Int))(m:Nat):List (List Int):=(List.range m).map fun i=>(qfk f L i).flatten
theorem Zc (f:Nat)(L:List (List Int))(m:Nat):(qb6 f L m).length=m:=by simp[qb6]
def TreeV.rootZ (t:TreeV)(row n:Nat):Bool:=decide (t.f=0∨(row:Int)=t.p - 1∨(n:Int)≤t.f)
def TreeV.upZ (t:TreeV)(row:Nat)(L:List (List Int)):List (List Int):=if t.rootZ row L.length then [L.flatten] else qb6 t.fn L (qU L.length t.fn)
theorem zl {L M:List (List Int)}(h:M.Sublist L):M.flatten.length≤L.flatten.length:=by
 induction h with
 | slnil=>exact Nat.le_refl _
 | cons a _ ih=>simp only[List.flatten_cons,List.length_append];omega
 | cons_cons a _ ih=>simp only[List.flatten_cons,List.length_append];omega
theorem qfY {α:Type}(n:Nat)(L:List α)(i:Nat):(qfk n L i).Sublist L:=(List.take_sublist _ _).trans (List.drop_sublist _ _)
theorem qf6 (L:List (List Int))(k i:Nat):Qi (L.drop k) i=Qi L (k+i):=by simp[Qi,Lg,List.getElem?_drop]
theorem Jm {big:Bool}{v:Nat→Nat}{z1 z2:List Int}(D:z1.length≤sB big)(o:z2.length≤sB big){i:Nat}(q:i<2*sB big):qn (QI big v z1 z2) i=qn (Qt big (v 7==0) v 9) i:=by
 have e:=QG big (v 7==0) v 9 (by omega);have G:4*sB big=mB big:=by cases big<;>decide
 unfold QI;rw[Yi (by rw[Qd (by omega)];omega),if_neg (by omega),Yi (by omega),if_neg (by omega)]
theorem qL {big o:Bool}{v:Nat→Nat}(k:Nat){i:Nat}(D:k+1≤9)(h: ¬(atB big (k+1)≤i∧i<atB big (k+1)+szB big (k+1))):qn (Qt big o v (k+1)) i=qn (Qt big o v k) i:=by
 rw[Qq big o v D i,if_neg (fun q=>h q.2)]
theorem Ji {big o:Bool}{v:Nat→Nat}(k:Nat){i:Nat}(q:k+1≤9)(G:k+1≠7)(h:atB big (k+1)=i):qn (Qt big o v (k+1)) i=byt (v (k+1)) 0:=by
 have I:1≤szB big (k+1):=by
  have:=QQ big false (k+1) (by omega) q
  simpa [szE] using this.1
 rw[Qq big o v q i,if_pos ⟨fun D=>G D.1,by omega,by omega⟩,←h,Nat.sub_self]
theorem jj {x:Nat}(h:x≤255):byt x 0=(x:Int):=by
 have:=zv x 0
 simp at this
 omega
theorem qfm {big:Bool}{v:Nat→Nat}{z1 z2:List Int}(X:ParOk big v)(D:z1.length≤sB big)(q:z2.length≤sB big):okD big false (QI big v z1 z2)∧qn (QI big v z1 z2) 1=(v 2:Nat):=by
 have hs:8≤sB big:=by cases big<;>decide
 have hm:mB big≤64:=by cases big<;>decide
 obtain⟨p1,U,p3,V, -,p6,Y⟩:=X.p;have g0:qn (QI big v z1 z2) 0=(v 1:Nat):=by
  rw[Jm D q (by omega),qL 8 (by omega) (by cases big<;>decide),qL 7 (by omega) (by cases big<;>decide),qL 6 (by omega) (by cases big<;>decide),qL 5 (by omega) (by cases big<;>decide),qL 4 (by omega) (by cases big<;>decide),
   qL 3 (by omega) (by cases big<;>decide),qL 2 (by omega) (by cases big<;>decide),qL 1 (by omega) (by cases big<;>decide),Ji 0 (by omega) (by omega) (by cases big<;>rfl)]
  exact jj (x:=v 1) (by omega)
 have I:qn (QI big v z1 z2) 1=(v 2:Nat):=by
  rw[Jm D q (by omega),qL 8 (by omega) (by cases big<;>decide),qL 7 (by omega) (by cases big<;>decide),qL 6 (by omega) (by cases big<;>decide),qL 5 (by omega) (by cases big<;>decide),qL 4 (by omega) (by cases big<;>decide),
   qL 3 (by omega) (by cases big<;>decide),qL 2 (by omega) (by cases big<;>decide),Ji 1 (by omega) (by omega) (by cases big<;>rfl)]
  exact jj (x:=v 2) (by omega)
 have J:qn (QI big v z1 z2) 3=(v 4:Nat):=by
  rw[Jm D q (by omega),qL 8 (by omega) (by cases big<;>decide),qL 7 (by omega) (by cases big<;>decide),qL 6 (by omega) (by cases big<;>decide),qL 5 (by omega) (by cases big<;>decide),qL 4 (by omega) (by cases big<;>decide),
   Ji 3 (by omega) (by omega) (by cases big<;>rfl)]
  exact jj (x:=v 4) (by omega)
 have Z:atB big 9<2*sB big:=by cases big<;>decide
 have O:qn (QI big v z1 z2) (atB big 9)=(v 9:Nat):=by
  rw[Jm D q Z,Ji 8 (by omega) (by omega) rfl];exact jj (x:=v 9) (by omega)
 refine⟨⟨yc D q,fun S i i1 i2=>?_,fun h=>(by cases h),?_⟩,I⟩
 ·subst S;have G:i<2*sB true:=i2;have o: ∀k,k<9→ ¬(atB true (k+1)≤i∧i<atB true (k+1)+szB true (k+1)):=fun k hk h=>by
   have:atB true (k+1)+szB true (k+1)≤18:=by
    rcases(show k=0∨k=1∨k=2∨k=3∨k=4∨k=5∨k=6∨k=7∨k=8 by omega)with rfl|rfl|rfl|rfl|rfl|rfl|rfl|rfl|rfl<;>decide
   omega
  rw[Jm D q G,qL 8 (by omega) (o 8 (by omega)),qL 7 (by omega) (o 7 (by omega)),qL 6 (by omega) (o 6 (by omega)),qL 5 (by omega) (o 5 (by omega)),qL 4 (by omega) (o 4 (by omega)),qL 3 (by omega) (o 3 (by omega)),
   qL 2 (by omega) (o 2 (by omega)),qL 1 (by omega) (o 1 (by omega)),qL 0 (by omega) (o 0 (by omega)),ji]
 ·rw[g0,I,J,O];exact⟨p1,U,fun _=>V.1,Y⟩
end Go.Proofs.YthjoojnlnlmljaaGreat
namespace Go.Proofs.YthjoojnlnlmljaaGreat
open Go.ChangeShapes Go.WideShapes Go.ChangeAt Go.RowKit Go.Joins Go.Shelf Go.Maps
open Go.Lib (hid)
attribute [local go_sem] Oper.semAt_some
theorem qf4 {zs:List Int}{i p n:Nat}(h:i<n):qn ((zs.drop p).take n) i=qn zs (p+i):=by
 unfold qn;simp[Lg,List.getElem?_take,h,List.getElem?_drop]
theorem JI {w w':World}{a:Option Addr}{n c:Nat}{zs:List Int}(h:Hold w (.slice a n c) zs)(D:Below w.heap.size w w'){j:Nat}(o:j<zs.length): ∃b off,a=some ⟨b,off,none⟩∧b<w'.heap.size∧w'.cell? ⟨b,off+j,none⟩=some (.int .u8 (qn zs j))∧0≤qn zs j∧qn zs j≤255:=by
 have q:zs≠[]:=fun e=>by rw[e]at o;simp at o
 rcases h.2 with⟨I, -⟩|⟨U,S,e, -, -,J⟩
 ·exact absurd I q
 ·obtain⟨b,off,rfl,G,O⟩:=J.resolve_left q;simp only[Value.slice.injEq]at e;exact⟨b,off,e.1,Nat.lt_of_lt_of_le G D.size,(D.cell (p:=⟨b,off+j,none⟩) G).trans (O j o),(qQ h.1 o).2⟩
theorem Z2 (o n:Nat)(h:o+n<9223372036854775808)(w:World):
  Calls Tryz.prog 177 #[.int .u64 (o:Nat),.int .u64 0,.int .u64 (n:Nat)] w fun e w'=>e= .returned (.tuple #[.int .u64 ((o+n:Nat):Int),.int .u64 0,.bool false])∧w'=w:=by
 have D:IntKind.u64.wrap ((o:Int)+n)=(o:Int)+n:=u64_wrap_id _ (by omega) (by omega);have q: ¬((o:Int)+n<o):=by omega
 have G:(o:Int)≤(o:Int)+n:=by omega
 rw[Int.natCast_add];clear h;go_enter Tryz.func177,Tryz.ntmps177
 go_wp2
 exact Bp (results_tmp3 (fn:=Tryz.f177) (t:=6) (u:=7) (v:=8) rfl _ _ _) rfl ⟨rfl,rfl⟩
theorem j6 {n:Nat}{x:List Int}{j:Nat}(D:j<n)(o:x.length≤n):(Qv n x).take (j+1)=(Qv n x).take j++[if j<x.length then qn x j else 0]:=by
 have q:=QC o;rw[ZW (zs:=Qv n x) (by omega)];congr 2
 unfold Qv qn;simp only[Lg];by_cases h:j<x.length
 ·rw[if_pos h,List.getElem?_append_left h]
 ·rw[if_neg h,List.getElem?_append_right (by omega),List.getElem?_replicate,if_pos (by omega)];rfl
theorem Z1 (zs:List Int)(v:Value)(p n:Nat)(w:World)(h:Hold w v zs)(hn:n≤65535)(hp:p≤zs.length)(hm:(zs.length:Int)≤281474976710656):
  Calls Tryz.prog 180 #[v,.int .i64 (p:Nat),.int .i64 (n:Nat)] w fun e w'=> ∃v',e= .returned v'∧w'.ownsRow w.heap.size 5 1 v' n ((Qv n ((zs.drop p).take n)).map qp)∧Below w.heap.size w w':=by
 obtain⟨i0,hi,ag,aa,ad⟩:=info_parts Qy;obtain⟨a,ap,rfl,aq,au⟩:=h.slice;have HH:=hid h;obtain⟨X,Y⟩:=Ex ((zs.drop p).take n);have af:X.length=min n (zs.length - p):=by rw[←Y];simp
 have ac: ∀j,j<X.length→qn X j=qn zs (p+j):=fun j hj=>by rw[←Y];exact qf4 (by omega)
 have ab:=QC (n:=n) (zs:=X) (by omega);rw[Y];have S:=hid af;have am:=hid ac;have al:=hid ab;clear h Y af ac ab;go_enter Tryz.func180,Tryz.ntmps180
 go_wp2_with fail
 go_loopw [7,8] (fun b i wr=> ∃j:Nat,i= .int .i64 (j:Nat)∧j≤n∧wr.ownsRow w.heap.size 5 1 b j (((Qv n X).take j).map qp)∧Below w.heap.size w wr) (fun _ i _=>n - (intOf i).toNat)
 case atStart=>exact⟨0,rfl,Nat.zero_le _,by simpa using Wo w w.heap.size 5 1,Below.refl _ _⟩
 case round=>
  obtain⟨j,rfl,hj,o,U⟩:=hrel;have D:=hid U;have V:=hid o;obtain⟨a1,n1,c1,rfl⟩:=qu o;by_cases ai:j<n
  case neg=>
   obtain rfl:j=n:=by omega
   clear o U;go_wp2
   go_ret
   refine⟨_,rfl,?_,D.out⟩;have:=V.out
   rwa[List.take_of_length_le (by rw[al.out];exact Nat.le_refl _)]at this
  have Z:=j6 (x:=X) ai (by have:=S.out;omega);have J:=hid Z;clear Z o;by_cases aj:p+j<zs.length
  case pos=>
   have ae:j<X.length:=by have:=S.out;omega
   have I:=J.out;rw[if_pos ae,am.out j ae]at I;have HZ:=hid I;obtain⟨bb,ar,rfl,q1,q2,q3,q4⟩:=JI HH.out U aj;have ak:(p:Int)+j<zs.length:=by omega
   have ah:0≤(p:Int)+j∧(p:Int)+j<9223372036854775808:=by omega
   obtain⟨an,ao⟩:=ah;generalize qn zs (p+j)=z at*;clear U I J;go_wp2_with (at_builtin;refine wpList_append_own _ rfl _ _ 24 rfl w.heap.size 5 i0 (.int .u8 0) 1 1 Tryz.underlying24 hi ag aa ad rfl (by decide) _ _ _ rfl (V.out.alloc _) ⟨wr.heap.size,0,none⟩ 1 1 [.int .u8 z] rfl rfl (cell_one_new _ _ _) (by simp[Value.oneCell']) (by unfold maxLen;omega) (by omega) (by simp;have:=D.out.size;omega) ?_;intro v' w6 q G _;have O:Below w.heap.size w w6:=(D.out.alloc D.out.size _).grown G (by simp;have:=D.out.size;omega) (fun k e=>(V.out.lt k e).1))
   refine⟨⟨j+1,rfl,by omega,by rw[HZ.out,List.map_append];exact q,O⟩,by simp[intOf];omega⟩
  have I:=J.out;rw[if_neg (by have:=S.out;omega)]at I;have HZ:=hid I;have ak: ¬((p:Int)+j<zs.length):=by omega
  clear U I J;go_wp2_with (at_builtin;refine wpList_append_own _ rfl _ _ 24 rfl w.heap.size 5 i0 (.int .u8 0) 1 1 Tryz.underlying24 hi ag aa ad rfl (by decide) _ _ _ rfl (V.out.alloc _) ⟨wr.heap.size,0,none⟩ 1 1 [.int .u8 0] rfl rfl (cell_one_new _ _ _) (by simp[Value.oneCell']) (by unfold maxLen;omega) (by omega) (by simp;have:=D.out.size;omega) ?_;intro v' w6 q G _;have O:Below w.heap.size w w6:=(D.out.alloc D.out.size _).grown G (by simp;have:=D.out.size;omega) (fun k e=>(V.out.lt k e).1))
  refine⟨⟨j+1,rfl,by omega,by rw[HZ.out,List.map_append];exact q,O⟩,by simp[intOf];omega⟩
theorem qdl (big:Bool)(zs:List Int)(v:Value)(w:World)(h:Hold w v zs)(hk:zs.length≤mB big):
  Calls Tryz.prog 175 #[.int .i64 (kB big),v] w fun e w'=> ∃v',e= .returned v'∧w'.ownsRow w.heap.size 5 1 v' (yf (bB big) zs).length ((yf (bB big) zs).map qp)∧Below w.heap.size w w':=by
 obtain⟨i0,hi,ad,ab,ac⟩:=info_parts Qy;obtain⟨a,al,rfl,am,ao⟩:=h.slice;have O:mB big≤bB big∧bB big≤128:=by cases big<;>decide
 obtain⟨n,hn⟩:=Ex (bB big);have U:=hid (fun(W:World)=>YG big W);rw[hn]at U O⊢;have HH:=hid h;have ah:=hid O;by_cases h0:zs.length=0
 case pos=>
  have e:yf n zs=[]:=by unfold yf;rw[if_pos h0]
  rw[e];obtain rfl:zs=[]:=List.eq_nil_of_length_eq_zero h0;clear O h hn hk;go_enter Tryz.func175,Tryz.ntmps175
  go_wp2
  go_ret
  exact⟨_,rfl,Wo _ _ _ _,Below.refl _ _⟩
 have e:yf n zs=Qv n zs:=by unfold yf;rw[if_neg h0]
 have Y:=QC (n:=n) (zs:=zs) (by omega);rw[e,Y];have ag:=hid Y;have ai:0<zs.length:=by omega
 have aj:((zs.length:Int)==0)=false:=beq_eq_false_iff_ne.2 (by omega);have ak:(zs.length:Int)≤128:=by omega
 have ap:(n:Int)≤128:=by omega
 have HK:=hid hk;clear h Y e h0 O hn hk;go_enter Tryz.func175,Tryz.ntmps175
 go_wp2_with fail
 go_loopw [5,6] (fun b i wr=> ∃j:Nat,i= .int .i64 (j:Nat)∧j≤n∧wr.ownsRow w.heap.size 5 1 b j (((Qv n zs).take j).map qp)∧Below w.heap.size w wr) (fun _ i _=>n - (intOf i).toNat)
 case atStart=>exact⟨0,rfl,Nat.zero_le _,by simpa using Wo w w.heap.size 5 1,Below.refl _ _⟩
 case round=>
  obtain⟨j,rfl,hj,o,X⟩:=hrel;have D:=hid X;have HO:=hid o;obtain⟨a1,n1,c1,rfl⟩:=qu o;by_cases ae:j<n
  case neg=>
   obtain rfl:j=n:=by omega
   clear o X;go_wp2_with fail
   refine(U.out _).mono ?_;rintro e w4 ⟨rfl,I⟩;rw[I];clear I;go_wp2
   go_ret
   refine⟨_,rfl,?_,D.out⟩;have:=HO.out
   rwa[List.take_of_length_le (by rw[ag.out];exact Nat.le_refl _)]at this
  have aa:=j6 (x:=zs) ae (by have:=ah.out;have:=HK.out;omega);have S:=hid aa;have aq:(j:Int)<n:=by omega
  clear aa o;by_cases Z:j<zs.length
  case pos=>
   have J:=S.out;rw[if_pos Z]at J;have HZ:=hid J;obtain⟨bb,an,rfl,q1,q2,q3,q4⟩:=JI HH.out X Z;have af:(j:Int)<zs.length:=by omega
   generalize qn zs j=z at*;clear X J S;go_wp2_with fail
   refine(U.out _).mono ?_;rintro e w4 ⟨rfl,I⟩;rw[I];clear I;go_wp2_with (at_builtin;refine wpList_append_own _ rfl _ _ 24 rfl w.heap.size 5 i0 (.int .u8 0) 1 1 Tryz.underlying24 hi ad ab ac rfl (by decide) _ _ _ rfl (HO.out.alloc _) ⟨wr.heap.size,0,none⟩ 1 1 [.int .u8 z] rfl rfl (cell_one_new _ _ _) (by simp[Value.oneCell']) (by unfold maxLen;omega) (by omega) (by simp;have:=D.out.size;omega) ?_;intro v' w6 q G _;have V:Below w.heap.size w w6:=(D.out.alloc D.out.size _).grown G (by simp;have:=D.out.size;omega) (fun k e=>(HO.out.lt k e).1))
   refine⟨⟨j+1,rfl,by omega,by rw[HZ.out,List.map_append];exact q,V⟩,by simp[intOf];omega⟩
  have J:=S.out;rw[if_neg Z]at J;have HZ:=hid J;have af: ¬((j:Int)<zs.length):=by omega
  clear X J S;go_wp2_with fail
  refine(U.out _).mono ?_;rintro e w4 ⟨rfl,I⟩;rw[I];clear I;go_wp2_with (at_builtin;refine wpList_append_own _ rfl _ _ 24 rfl w.heap.size 5 i0 (.int .u8 0) 1 1 Tryz.underlying24 hi ad ab ac rfl (by decide) _ _ _ rfl (HO.out.alloc _) ⟨wr.heap.size,0,none⟩ 1 1 [.int .u8 0] rfl rfl (cell_one_new _ _ _) (by simp[Value.oneCell']) (by unfold maxLen;omega) (by omega) (by simp;have:=D.out.size;omega) ?_;intro v' w6 q G _;have V:Below w.heap.size w w6:=(D.out.alloc D.out.size _).grown G (by simp;have:=D.out.size;omega) (fun k e=>(HO.out.lt k e).1))
  refine⟨⟨j+1,rfl,by omega,by rw[HZ.out,List.map_append];exact q,V⟩,by simp[intOf];omega⟩
def qH (h:List Int):List Int:=h++List.replicate 8 0
theorem qX {N:Nat}(D:N≤64){h:List Int}(q:Words N 8 h):Words 64 16 (qH h):=by
 refine⟨by simp[qH,q.1],fun z o=>?_⟩;rcases List.mem_append.1 o with o|o
 ·have:=q.2 z o
  have G:(2:Int)^N≤2^64:=by exact_mod_cast Nat.pow_le_pow_right (by omega) D
  omega
 ·rw[List.eq_of_mem_replicate o];decide
theorem qar {h:List Int}(o:h.length=8){j:Nat}(q:j<8):wd (qH h) j=wd h j:=by
 unfold wd qH;simp[Lg,List.getElem?_append_left (show j<h.length by omega)]
def Qp (h b:List Int)(j:Nat):List Int:=h.take j++b.drop j
theorem YX {h b:List Int}{j:Nat}(o:j<h.length)(G:j<b.length):(Qp h b j).set j (wd h j)=Qp h b (j+1):=by
 have I:h.take (j+1)=h.take j++[wd h j]:=by
  rw[List.take_succ_eq_append_getElem o];simp[wd,Lg,o]
 have D:b.drop j=b[j]::b.drop (j+1):=List.drop_eq_getElem_cons G;have q:(h.take j).length=j:=by simp;omega
 unfold Qp;rw[I,D,List.set_append_right _ _ (by omega),q,Nat.sub_self,List.set_cons_zero];simp
theorem yG {h b:List Int}{j:Nat}(o:j≤h.length)(q:j≤b.length):(Qp h b j).length=b.length:=by simp[Qp];omega
theorem yT {k:IntKind}{L:List Int}{j:Nat}(o:j<L.length):(qg k L)[j]? =some (.int k (wd L j)):=by
 simp[qg,wd,Lg,o]
theorem Holds8.mono_below' {w w':World}{v:Value}{zs:List Int}{B:Nat}(h:Holds8 w v zs)(o:Below B w w')(q:w.heap.size≤B):Holds8 w' v zs:=qW h (o.mono q)
def Z8:List Int:=List.replicate 8 0
theorem Jg {R h:List Int}(q:R.length=8)(o:h.length=8):Qp R (qH h) 8=qH R:=by
 unfold Qp qH;rw[List.take_of_length_le (by omega),List.drop_append_of_le_length (by omega),List.drop_of_length_le (by omega),List.nil_append]
theorem qaK (h bs:List Int)(hh:Words 64 8 h)(v:Value)(lo:Nat)(ax:(lo:Int)<9223372036854775808)(U node:Bool)(w:World)(hH:Holds8 w v bs)(hz: ∀z∈bs,0≤z∧z≤255)(hl:bs.length=128):
  Calls Tryz.prog 179 #[.int .i64 1,.agg (qg .u64 (qH h)),v,.int .u64 (lo:Nat),.int .u64 0,.bool U,.bool node] w fun e w'=>e= .returned (.agg (qg .u64 (qH (yk true h bs (lo:Nat) U node))))∧Below w.heap.size w w':=by
 obtain⟨o,G⟩:=Ex w.heap.size;have ae:=Q5 8 16 hz (by rw[hl]);obtain⟨M,hM⟩:=Ex (QM 8 16 bs);obtain⟨R,hR⟩:=Ex (yk true h bs (lo:Nat) U node);have aq:Words 64 8 R:=by rw[←hR];exact QH true hh _ _ _ _
 have ay:zr mixBig IVb 12 h M (lo:Nat) 0 U node=R:=by rw[←hR,←hM];rfl
 rw[hR];rw[hM]at ae;have ak:=qX (by decide) hh;have ao: ∀j,j<8→wd (qH h) j=wd h j:=fun j hj=>qar hh.1 hj
 have aH:=hid hM;have aD:=hid ay;have aM:=hid hl;have aP:=hid ax;have aa:=hid ae;have D:=hid aq;have J:=hid hh;have ac:=hid ak;have aB:=hid ao;have aJ:=hid hz;have aA:=hid hH;clear hM hR ay hl ax ae aq ao ak hz hH hh;go_enter Tryz.func179,Tryz.ntmps179
 go_wp2_with fail
 have aQ:(((w.alloc (.cells (qg .u64 (qH h)) 252)).alloc (.cells #[.int .u64 0,.int .u64 0,.int .u64 0,.int .u64 0,.int .u64 0,.int .u64 0,.int .u64 0,.int .u64 0,.int .u64 0,.int .u64 0,.int .u64 0,.int .u64 0,.int .u64 0,.int .u64 0,.int .u64 0,.int .u64 0] 252)).alloc (.cells (qg .u64 Z8) 274)).heap.size=o+3:=by simp[G]
 have r0:(((w.alloc (.cells (qg .u64 (qH h)) 252)).alloc (.cells #[.int .u64 0,.int .u64 0,.int .u64 0,.int .u64 0,.int .u64 0,.int .u64 0,.int .u64 0,.int .u64 0,.int .u64 0,.int .u64 0,.int .u64 0,.int .u64 0,.int .u64 0,.int .u64 0,.int .u64 0,.int .u64 0] 252)).alloc (.cells (qg .u64 Z8) 274)).heap[o]? =some (.cells (qg .u64 (qH h)) 252 (0,0)):=by
  rw[Bh _ _ _ (by simp[G];omega),Bh _ _ _ (by simp[G]),←G];exact Wn _ _
 have r1:(((w.alloc (.cells (qg .u64 (qH h)) 252)).alloc (.cells #[.int .u64 0,.int .u64 0,.int .u64 0,.int .u64 0,.int .u64 0,.int .u64 0,.int .u64 0,.int .u64 0,.int .u64 0,.int .u64 0,.int .u64 0,.int .u64 0,.int .u64 0,.int .u64 0,.int .u64 0,.int .u64 0] 252)).alloc (.cells (qg .u64 Z8) 274)).heap[o+1]? =some (.cells #[.int .u64 0,.int .u64 0,.int .u64 0,.int .u64 0,.int .u64 0,.int .u64 0,.int .u64 0,.int .u64 0,.int .u64 0,.int .u64 0,.int .u64 0,.int .u64 0,.int .u64 0,.int .u64 0,.int .u64 0,.int .u64 0] 252 (0,0)):=by
  rw[Bh _ _ _ (by simp[G]),show o+1=(w.alloc (.cells (qg .u64 (qH h)) 252)).heap.size by simp[G]];exact Wn _ _
 have r2:(((w.alloc (.cells (qg .u64 (qH h)) 252)).alloc (.cells #[.int .u64 0,.int .u64 0,.int .u64 0,.int .u64 0,.int .u64 0,.int .u64 0,.int .u64 0,.int .u64 0,.int .u64 0,.int .u64 0,.int .u64 0,.int .u64 0,.int .u64 0,.int .u64 0,.int .u64 0,.int .u64 0] 252)).alloc (.cells (qg .u64 Z8) 274)).heap[o+1+1]? =some (.cells (qg .u64 (Qp h Z8 0)) 274 (0,0)):=by
  rw[show o+1+1=((w.alloc (.cells (qg .u64 (qH h)) 252)).alloc (.cells #[.int .u64 0,.int .u64 0,.int .u64 0,.int .u64 0,.int .u64 0,.int .u64 0,.int .u64 0,.int .u64 0,.int .u64 0,.int .u64 0,.int .u64 0,.int .u64 0,.int .u64 0,.int .u64 0,.int .u64 0,.int .u64 0] 252)).heap.size by simp[G]];exact Wn _ _
 have aw:Below o w (((w.alloc (.cells (qg .u64 (qH h)) 252)).alloc (.cells #[.int .u64 0,.int .u64 0,.int .u64 0,.int .u64 0,.int .u64 0,.int .u64 0,.int .u64 0,.int .u64 0,.int .u64 0,.int .u64 0,.int .u64 0,.int .u64 0,.int .u64 0,.int .u64 0,.int .u64 0,.int .u64 0] 252)).alloc (.cells (qg .u64 Z8) 274)):=by rw[←G];exact((Br.alloc Nl _).alloc (by simp) _).alloc (by simp;omega) _
 change Code.wp _ _ _ _ (((w.alloc (.cells (qg .u64 (qH h)) 252)).alloc (.cells #[.int .u64 0,.int .u64 0,.int .u64 0,.int .u64 0,.int .u64 0,.int .u64 0,.int .u64 0,.int .u64 0,.int .u64 0,.int .u64 0,.int .u64 0,.int .u64 0,.int .u64 0,.int .u64 0,.int .u64 0,.int .u64 0] 252)).alloc (.cells (qg .u64 Z8) 274))
 generalize (((w.alloc (.cells (qg .u64 (qH h)) 252)).alloc (.cells #[.int .u64 0,.int .u64 0,.int .u64 0,.int .u64 0,.int .u64 0,.int .u64 0,.int .u64 0,.int .u64 0,.int .u64 0,.int .u64 0,.int .u64 0,.int .u64 0,.int .u64 0,.int .u64 0,.int .u64 0,.int .u64 0] 252)).alloc (.cells (qg .u64 Z8) 274))=W3 at*;have R0:=hid r0;have R1:=hid r1;have R2:=hid r2;have ag:=hid aw;clear r0 r1 r2 aw;go_loopw [16] (fun i wr=> ∃j:Nat,i= .int .i64 (j:Nat)∧j≤8∧wr.heap[o+1+1]? =some (.cells (qg .u64 (Qp h Z8 j)) 274 (0,0))∧But (o+1+1) W3 wr) (fun i _=>8 - (intOf i).toNat)
 case atStart=>exact⟨0,rfl,by omega,R2.out,But.refl _ _⟩
 case round=>
  obtain⟨j,rfl,hj,q,I⟩:=hrel;have S:=hid q;have HB:=hid I;have ah:o+3≤wr.heap.size:=by have:=I.size;omega
  by_cases X:j<8
  case pos=>
   have c0:wr.cell? ⟨o,j,none⟩=some (.int .u64 (wd h j)):=by
    rw[qa ((I.block o (by omega) (by omega)).trans R0.out) j,yT (by rw[ac.out.1];omega),aB.out j X]
   have ad:(Qp h Z8 j).length=8:=yG (by rw[J.out.1];omega) (by show j≤8;omega);have c1:wr.cell? ⟨o+1+1,j,none⟩=some (.int .u64 (wd (Qp h Z8 j) j)):=by rw[qa q j,yT (by omega)]
   have f1:=frozen_of_row wr (o+1+1) j _ _ q;have O:=heap_setCell_same wr (o+1+1) j _ _ (.int .u64 (wd h j)) q;rw[qY,YX (by rw[J.out.1];omega) (by show j<8;omega)]at O;have ai:=yg J.out X;have af:=hid O;have aI:(j:Int)<8:=by omega
   generalize wd (Qp h Z8 j) j=zo at c1;generalize wd h j=zj at*;obtain⟨aE,aF⟩:=ai;clear O ad q I;go_wp2
   exact⟨⟨j+1,rfl,by omega,af.out,HB.out.set _ _⟩,by simp[intOf];omega⟩
  obtain rfl:j=8:=by omega
  rw[show Qp h Z8 8=h by unfold Qp;rw[List.take_of_length_le (by rw[J.out.1];omega)];simp[Z8]]at S;have au:=aA.out.mono_below' (ag.out.trans (I.below (by omega) (by omega))) (by omega);have ap:=hid au;clear q I au hj X;go_wp2_with fail
  refine(qbs bs v _ ap.out aJ.out aM.out).mono ?_;rintro e w1 ⟨rfl,V⟩;rw[aH.out];have aO:=V.size;have k0:=qe ((HB.out.block o (by omega) (by omega)).trans R0.out) V;have k1:=qe ((HB.out.block (o+1) (by omega) (by omega)).trans R1.out) V;have k2:=qe S.out V;have av:Below o w w1:=(ag.out.trans (HB.out.below (by omega) (by omega))).trans (V.mono (by omega));have K0:=hid k0;have K1:=hid k1;have K2:=hid k2;have ar:=hid av;clear k0 k1 k2 av V HB S R0 R1 R2 ag ap;go_upto_region 8 with((with_reducible show wpList _ _ _ (Oper.mk none (Op.store 252 _ _) _ _ _ _::_) _ _);refine wpList_store_row rfl 252 _ _ rfl w1.heap.size (qg .u64 M) rfl rfl 252 _ (Wn _ _) (by rw[qd,aa.out.1];kernel_rfl) (by rw[qd,aa.out.1];rfl) qw ?_)
  refine qj ?_;intro W hW;obtain⟨bv,al⟩:=Ex w1.heap.size;have g0:W.heap[o]? =some (.cells (qg .u64 (qH h)) 252 (0,0)):=by rw[hW];exact(setRow_other (w1.alloc _) _ _ _ (by omega)).trans ((Bh _ _ _ (by omega)).trans K0.out)
  have g1:W.heap[o+1]? =some (.cells #[.int .u64 0,.int .u64 0,.int .u64 0,.int .u64 0,.int .u64 0,.int .u64 0,.int .u64 0,.int .u64 0,.int .u64 0,.int .u64 0,.int .u64 0,.int .u64 0,.int .u64 0,.int .u64 0,.int .u64 0,.int .u64 0] 252 (0,0)):=by rw[hW];exact(setRow_other (w1.alloc _) _ _ _ (by omega)).trans ((Bh _ _ _ (by omega)).trans K1.out)
  have g2:W.heap[o+1+1]? =some (.cells (qg .u64 h) 274 (0,0)):=by rw[hW];exact(setRow_other (w1.alloc _) _ _ _ (by omega)).trans ((Bh _ _ _ (by omega)).trans K2.out)
  have g3:W.heap[bv]? =some (.cells (qg .u64 M) 252 (0,0)):=by rw[hW,←al];exact setRow_heap _ _ _ _ _ _ (Wn _ _)
  have am:Below o w W:=by rw[hW];exact below_setRow (ar.out.alloc (by omega) _) (by omega) _
  rw[al];have aC:o+3≤bv:=by omega
  clear hW al K0 K1 K2 ar aO ah;go_wp2_with (first|((with_reducible show wpList _ _ _ (Oper.mk (some 41) _ _ _ _ _::_) _ _);refine wpList_load_row rfl 274 _ rfl (o+1+1) rfl _ _ _ _ g2 Tryz.underlying274 rfl (by rw[qd,J.out.1];kernel_rfl) ?_)|((with_reducible show wpList _ _ _ (Oper.mk (some 42) _ _ _ _ _::_) _ _);refine wpList_load_row rfl 252 _ rfl bv rfl _ _ _ _ g3 Tryz.underlying252 rfl (by rw[qd,aa.out.1];kernel_rfl) ?_))
  refine(qie h M J.out aa.out (lo:Nat) 0 U node _).mono ?_;rintro e w2 ⟨rfl,Z⟩;rw[aD.out];have aG:=Z.size;have aK:=(Ai g3).1;have j0:=qe g0 Z;have j1:=qe g1 Z;have j2:=qe g2 Z;have az:Below o w w2:=am.trans (Z.mono (by omega));clear g0 g1 g2 g3 am Z;go_upto_region 9 with((with_reducible show wpList _ _ _ (Oper.mk none (Op.store 274 _ _) _ _ _ _::_) _ _);refine wpList_store_row rfl 274 _ _ rfl (o+1+1) (qg .u64 R) rfl rfl 274 _ j2 (by rw[qd,D.out.1];kernel_rfl) (by rw[qd,qd,D.out.1,J.out.1]) qw ?_)
  refine qj ?_;intro W7 Y;have m0:W7.heap[o]? =some (.cells (qg .u64 (Qp R (qH h) 0)) 252 (0,0)):=by rw[Y];exact(setRow_other w2 _ _ _ (by omega)).trans j0
  have m1:W7.heap[o+1]? =some (.cells #[.int .u64 0,.int .u64 0,.int .u64 0,.int .u64 0,.int .u64 0,.int .u64 0,.int .u64 0,.int .u64 0,.int .u64 0,.int .u64 0,.int .u64 0,.int .u64 0,.int .u64 0,.int .u64 0,.int .u64 0,.int .u64 0] 252 (0,0)):=by rw[Y];exact(setRow_other w2 _ _ _ (by omega)).trans j1
  have m2:W7.heap[o+1+1]? =some (.cells (qg .u64 R) 274 (0,0)):=by rw[Y];exact setRow_heap _ _ _ _ _ _ j2
  have an:Below o w W7:=by rw[Y];exact below_setRow az (by omega) _
  have aR:o+3≤W7.heap.size:=by rw[Y,setRow_size];omega
  have M0:=hid m0;have M1:=hid m1;have M2:=hid m2;have aN:=hid an;clear Y m0 m1 m2 an j0 j1 j2 az aG aK aC;go_wp2_with fail
  go_loopw [19] (fun i wr=> ∃j:Nat,i= .int .i64 (j:Nat)∧j≤8∧wr.heap[o]? =some (.cells (qg .u64 (Qp R (qH h) j)) 252 (0,0))∧But o W7 wr) (fun i _=>8 - (intOf i).toNat)
  case atStart=>exact⟨0,rfl,by omega,M0.out,But.refl _ _⟩
  case round=>
   obtain⟨j,rfl,hj,q,I⟩:=hrel;have S:=hid q;have HB:=hid I;have ah:o+3≤wr.heap.size:=by have:=I.size;omega
   have aj:(qH h).length=16:=ac.out.1;by_cases X:j<8
   case pos=>
    have c0:wr.cell? ⟨o+1+1,j,none⟩=some (.int .u64 (wd R j)):=by rw[qa ((I.block (o+1+1) (by omega) (by omega)).trans M2.out) j,yT (by rw[D.out.1];omega)]
    have ad:(Qp R (qH h) j).length=16:=by rw[yG (by rw[D.out.1];omega) (by omega),aj]
    have c1:wr.cell? ⟨o,j,none⟩=some (.int .u64 (wd (Qp R (qH h) j) j)):=by rw[qa q j,yT (by omega)]
    have f1:=frozen_of_row wr o j _ _ q;have O:=heap_setCell_same wr o j _ _ (.int .u64 (wd R j)) q;rw[qY,YX (by rw[D.out.1];omega) (by omega)]at O;have ai:=yg D.out X;have af:=hid O;have aI:(j:Int)<8:=by omega
    generalize wd (Qp R (qH h) j) j=zo at c1;generalize wd R j=zj at*;obtain⟨aE,aF⟩:=ai;clear O ad q I aj;go_wp2
    exact⟨⟨j+1,rfl,by omega,af.out,HB.out.set _ _⟩,by simp[intOf];omega⟩
   obtain rfl:j=8:=by omega
   rw[Jg D.out.1 J.out.1]at q;have n1:=(I.block (o+1) (by omega) (by omega)).trans M1.out;have aL:Below o w wr:=aN.out.trans (I.below Nl (by omega));have ab:=qX (by decide) D.out;clear I aj hj X S;go_wp2_with (first|((with_reducible show wpList _ _ _ (Oper.mk (some 57) _ _ _ _ _::_) _ _);refine wpList_load_row rfl 252 _ rfl o rfl _ _ _ _ q Tryz.underlying252 rfl (by rw[qd,ab.1];kernel_rfl) ?_)|((with_reducible show wpList _ _ _ (Oper.mk none (Op.store 252 _ _) _ _ _ _::_) _ _);refine wpList_store_row rfl 252 _ _ rfl (o+1) (qg .u64 (qH R)) rfl rfl 252 _ n1 (by rw[qd,ab.1];kernel_rfl) (by rw[qd,ab.1];rfl) qw ?_))
   exact Bp (results_cell_row rfl _ _ (o+1) 252 _ _ _ rfl (setRow_heap _ _ _ _ _ _ n1) Tryz.underlying252 rfl (by rw[qd,ab.1];kernel_rfl)) rfl ⟨rfl,by rw[G];exact below_setRow aL (by omega) _⟩
theorem JY (h bs:List Int)(hh:Words 32 8 h)(v:Value)(lo:Nat)(ax:(lo:Int)<9223372036854775808)(V node:Bool)(w:World)(hH:Holds8 w v bs)(hz: ∀z∈bs,0≤z∧z≤255)(hl:bs.length=64):
  Calls Tryz.prog 179 #[.int .i64 2,.agg (qg .u64 (qH h)),v,.int .u64 (lo:Nat),.int .u64 0,.bool V,.bool node] w fun e w'=>e= .returned (.agg (qg .u64 (qH (yk false h bs (lo:Nat) V node))))∧Below w.heap.size w w':=by
 obtain⟨o,G⟩:=Ex w.heap.size;have af:=Q5 4 16 hz (by rw[hl]);obtain⟨M,hM⟩:=Ex (QM 4 16 bs);obtain⟨R,hR⟩:=Ex (yk false h bs (lo:Nat) V node);have aq:Words 32 8 R:=by rw[←hR];exact QH false hh _ _ _ _
 have ay:zr mixSmall IVs 10 h M ((lo:Nat)%4294967296) ((lo:Nat)/4294967296) V node=R:=by rw[←hR,←hM];rfl
 rw[hR];rw[hM]at af;have ak:=qX (by decide) hh;have ao: ∀j,j<8→wd (qH h) j=wd h j:=fun j hj=>qar hh.1 hj
 have aI:=hid hM;have aD:=hid ay;have aN:=hid hl;have aG:=hid ax;have ab:=hid af;have D:=hid aq;have J:=hid hh;have ad:=hid ak;have aB:=hid ao;have aK:=hid hz;have aA:=hid hH;clear hM hR ay hl ax af aq ao ak hz hH hh;go_enter Tryz.func179,Tryz.ntmps179
 go_wp2_with fail
 have aR:(((w.alloc (.cells (qg .u64 (qH h)) 252)).alloc (.cells #[.int .u64 0,.int .u64 0,.int .u64 0,.int .u64 0,.int .u64 0,.int .u64 0,.int .u64 0,.int .u64 0,.int .u64 0,.int .u64 0,.int .u64 0,.int .u64 0,.int .u64 0,.int .u64 0,.int .u64 0,.int .u64 0] 252)).alloc (.cells (qg .u32 Z8) 284)).heap.size=o+3:=by simp[G]
 have r0:(((w.alloc (.cells (qg .u64 (qH h)) 252)).alloc (.cells #[.int .u64 0,.int .u64 0,.int .u64 0,.int .u64 0,.int .u64 0,.int .u64 0,.int .u64 0,.int .u64 0,.int .u64 0,.int .u64 0,.int .u64 0,.int .u64 0,.int .u64 0,.int .u64 0,.int .u64 0,.int .u64 0] 252)).alloc (.cells (qg .u32 Z8) 284)).heap[o]? =some (.cells (qg .u64 (qH h)) 252 (0,0)):=by
  rw[Bh _ _ _ (by simp[G];omega),Bh _ _ _ (by simp[G]),←G];exact Wn _ _
 have r1:(((w.alloc (.cells (qg .u64 (qH h)) 252)).alloc (.cells #[.int .u64 0,.int .u64 0,.int .u64 0,.int .u64 0,.int .u64 0,.int .u64 0,.int .u64 0,.int .u64 0,.int .u64 0,.int .u64 0,.int .u64 0,.int .u64 0,.int .u64 0,.int .u64 0,.int .u64 0,.int .u64 0] 252)).alloc (.cells (qg .u32 Z8) 284)).heap[o+1]? =some (.cells #[.int .u64 0,.int .u64 0,.int .u64 0,.int .u64 0,.int .u64 0,.int .u64 0,.int .u64 0,.int .u64 0,.int .u64 0,.int .u64 0,.int .u64 0,.int .u64 0,.int .u64 0,.int .u64 0,.int .u64 0,.int .u64 0] 252 (0,0)):=by
  rw[Bh _ _ _ (by simp[G]),show o+1=(w.alloc (.cells (qg .u64 (qH h)) 252)).heap.size by simp[G]];exact Wn _ _
 have r2:(((w.alloc (.cells (qg .u64 (qH h)) 252)).alloc (.cells #[.int .u64 0,.int .u64 0,.int .u64 0,.int .u64 0,.int .u64 0,.int .u64 0,.int .u64 0,.int .u64 0,.int .u64 0,.int .u64 0,.int .u64 0,.int .u64 0,.int .u64 0,.int .u64 0,.int .u64 0,.int .u64 0] 252)).alloc (.cells (qg .u32 Z8) 284)).heap[o+1+1]? =some (.cells (qg .u32 (Qp h Z8 0)) 284 (0,0)):=by
  rw[show o+1+1=((w.alloc (.cells (qg .u64 (qH h)) 252)).alloc (.cells #[.int .u64 0,.int .u64 0,.int .u64 0,.int .u64 0,.int .u64 0,.int .u64 0,.int .u64 0,.int .u64 0,.int .u64 0,.int .u64 0,.int .u64 0,.int .u64 0,.int .u64 0,.int .u64 0,.int .u64 0,.int .u64 0] 252)).heap.size by simp[G]];exact Wn _ _
 have aw:Below o w (((w.alloc (.cells (qg .u64 (qH h)) 252)).alloc (.cells #[.int .u64 0,.int .u64 0,.int .u64 0,.int .u64 0,.int .u64 0,.int .u64 0,.int .u64 0,.int .u64 0,.int .u64 0,.int .u64 0,.int .u64 0,.int .u64 0,.int .u64 0,.int .u64 0,.int .u64 0,.int .u64 0] 252)).alloc (.cells (qg .u32 Z8) 284)):=by rw[←G];exact((Br.alloc Nl _).alloc (by simp) _).alloc (by simp;omega) _
 change Code.wp _ _ _ _ (((w.alloc (.cells (qg .u64 (qH h)) 252)).alloc (.cells #[.int .u64 0,.int .u64 0,.int .u64 0,.int .u64 0,.int .u64 0,.int .u64 0,.int .u64 0,.int .u64 0,.int .u64 0,.int .u64 0,.int .u64 0,.int .u64 0,.int .u64 0,.int .u64 0,.int .u64 0,.int .u64 0] 252)).alloc (.cells (qg .u32 Z8) 284))
 generalize (((w.alloc (.cells (qg .u64 (qH h)) 252)).alloc (.cells #[.int .u64 0,.int .u64 0,.int .u64 0,.int .u64 0,.int .u64 0,.int .u64 0,.int .u64 0,.int .u64 0,.int .u64 0,.int .u64 0,.int .u64 0,.int .u64 0,.int .u64 0,.int .u64 0,.int .u64 0,.int .u64 0] 252)).alloc (.cells (qg .u32 Z8) 284))=W3 at*;have R0:=hid r0;have R1:=hid r1;have R2:=hid r2;have ah:=hid aw;clear r0 r1 r2 aw;go_loopw [21] (fun i wr=> ∃j:Nat,i= .int .i64 (j:Nat)∧j≤8∧wr.heap[o+1+1]? =some (.cells (qg .u32 (Qp h Z8 j)) 284 (0,0))∧But (o+1+1) W3 wr) (fun i _=>8 - (intOf i).toNat)
 case atStart=>exact⟨0,rfl,by omega,R2.out,But.refl _ _⟩
 case round=>
  obtain⟨j,rfl,hj,q,I⟩:=hrel;have U:=hid q;have HB:=hid I;have ai:o+3≤wr.heap.size:=by have:=I.size;omega
  by_cases Y:j<8
  case pos=>
   have c0:wr.cell? ⟨o,j,none⟩=some (.int .u64 (wd h j)):=by
    rw[qa ((I.block o (by omega) (by omega)).trans R0.out) j,yT (by rw[ad.out.1];omega),aB.out j Y]
   have ae:(Qp h Z8 j).length=8:=yG (by rw[J.out.1];omega) (by show j≤8;omega);have c1:wr.cell? ⟨o+1+1,j,none⟩=some (.int .u32 (wd (Qp h Z8 j) j)):=by rw[qa q j,yT (by omega)]
   have f1:=frozen_of_row wr (o+1+1) j _ _ q;have O:=heap_setCell_same wr (o+1+1) j _ _ (.int .u32 (wd h j)) q;rw[qY,YX (by rw[J.out.1];omega) (by show j<8;omega)]at O;have S:=yg J.out Y;have aP:IntKind.u32.wrap (wd h j)=wd h j:=by rw[IntKind.wrap_u32];exact Int.emod_eq_of_lt S.1 S.2
   have ag:=hid O;have aJ:(j:Int)<8:=by omega
   generalize wd (Qp h Z8 j) j=zo at c1;generalize wd h j=zj at*;obtain⟨aE,aF⟩:=S;clear O ae q I;go_wp2
   exact⟨⟨j+1,rfl,by omega,ag.out,HB.out.set _ _⟩,by simp[intOf];omega⟩
  obtain rfl:j=8:=by omega
  rw[show Qp h Z8 8=h by unfold Qp;rw[List.take_of_length_le (by rw[J.out.1];omega)];simp[Z8]]at U;have au:=aA.out.mono_below' (ah.out.trans (I.below (by omega) (by omega))) (by omega);have ap:=hid au;clear q I au hj Y;go_wp2_with fail
  refine(qbt bs v _ ap.out aK.out aN.out).mono ?_;rintro e w1 ⟨rfl,X⟩;rw[aI.out];have aQ:=X.size;have k0:=qe ((HB.out.block o (by omega) (by omega)).trans R0.out) X;have k1:=qe ((HB.out.block (o+1) (by omega) (by omega)).trans R1.out) X;have k2:=qe U.out X;have av:Below o w w1:=(ah.out.trans (HB.out.below (by omega) (by omega))).trans (X.mono (by omega));have K0:=hid k0;have K1:=hid k1;have K2:=hid k2;have ar:=hid av;clear k0 k1 k2 av X HB U R0 R1 R2 ah ap;go_upto_region 20 with((with_reducible show wpList _ _ _ (Oper.mk none (Op.store 298 _ _) _ _ _ _::_) _ _);refine wpList_store_row rfl 298 _ _ rfl w1.heap.size (qg .u32 M) rfl rfl 298 _ (Wn _ _) (by rw[qd,ab.out.1];kernel_rfl) (by rw[qd,ab.out.1];rfl) qw ?_)
  refine qj ?_;intro W hW;obtain⟨bv,al⟩:=Ex w1.heap.size;have g0:W.heap[o]? =some (.cells (qg .u64 (qH h)) 252 (0,0)):=by rw[hW];exact(setRow_other (w1.alloc _) _ _ _ (by omega)).trans ((Bh _ _ _ (by omega)).trans K0.out)
  have g1:W.heap[o+1]? =some (.cells #[.int .u64 0,.int .u64 0,.int .u64 0,.int .u64 0,.int .u64 0,.int .u64 0,.int .u64 0,.int .u64 0,.int .u64 0,.int .u64 0,.int .u64 0,.int .u64 0,.int .u64 0,.int .u64 0,.int .u64 0,.int .u64 0] 252 (0,0)):=by rw[hW];exact(setRow_other (w1.alloc _) _ _ _ (by omega)).trans ((Bh _ _ _ (by omega)).trans K1.out)
  have g2:W.heap[o+1+1]? =some (.cells (qg .u32 h) 284 (0,0)):=by rw[hW];exact(setRow_other (w1.alloc _) _ _ _ (by omega)).trans ((Bh _ _ _ (by omega)).trans K2.out)
  have g3:W.heap[bv]? =some (.cells (qg .u32 M) 298 (0,0)):=by rw[hW,←al];exact setRow_heap _ _ _ _ _ _ (Wn _ _)
  have am:Below o w W:=by rw[hW];exact below_setRow (ar.out.alloc (by omega) _) (by omega) _
  rw[al];have aC:o+3≤bv:=by omega
  clear hW al K0 K1 K2 ar aQ ai;go_wp2_with (first|((with_reducible show wpList _ _ _ (Oper.mk (some 73) _ _ _ _ _::_) _ _);refine wpList_load_row rfl 284 _ rfl (o+1+1) rfl _ _ _ _ g2 Tryz.underlying284 rfl (by rw[qd,J.out.1];kernel_rfl) ?_)|((with_reducible show wpList _ _ _ (Oper.mk (some 74) _ _ _ _ _::_) _ _);refine wpList_load_row rfl 298 _ rfl bv rfl _ _ _ _ g3 Tryz.underlying298 rfl (by rw[qd,ab.out.1];kernel_rfl) ?_))
  refine(qif h M J.out ab.out (lo:Nat) (by omega) (by have:=aG.out;omega) V node _).mono ?_;rintro e w2 ⟨rfl,aa⟩;rw[aD.out];have aH:=aa.size;have aL:=(Ai g3).1;have j0:=qe g0 aa;have j1:=qe g1 aa;have j2:=qe g2 aa;have az:Below o w w2:=am.trans (aa.mono (by omega));clear g0 g1 g2 g3 am aa;go_upto_region 21 with((with_reducible show wpList _ _ _ (Oper.mk none (Op.store 284 _ _) _ _ _ _::_) _ _);refine wpList_store_row rfl 284 _ _ rfl (o+1+1) (qg .u32 R) rfl rfl 284 _ j2 (by rw[qd,D.out.1];kernel_rfl) (by rw[qd,qd,D.out.1,J.out.1]) qw ?_)
  refine qj ?_;intro W7 Z;have m0:W7.heap[o]? =some (.cells (qg .u64 (Qp R (qH h) 0)) 252 (0,0)):=by rw[Z];exact(setRow_other w2 _ _ _ (by omega)).trans j0
  have m1:W7.heap[o+1]? =some (.cells #[.int .u64 0,.int .u64 0,.int .u64 0,.int .u64 0,.int .u64 0,.int .u64 0,.int .u64 0,.int .u64 0,.int .u64 0,.int .u64 0,.int .u64 0,.int .u64 0,.int .u64 0,.int .u64 0,.int .u64 0,.int .u64 0] 252 (0,0)):=by rw[Z];exact(setRow_other w2 _ _ _ (by omega)).trans j1
  have m2:W7.heap[o+1+1]? =some (.cells (qg .u32 R) 284 (0,0)):=by rw[Z];exact setRow_heap _ _ _ _ _ _ j2
  have an:Below o w W7:=by rw[Z];exact below_setRow az (by omega) _
  have aS:o+3≤W7.heap.size:=by rw[Z,setRow_size];omega
  have M0:=hid m0;have M1:=hid m1;have M2:=hid m2;have aO:=hid an;clear Z m0 m1 m2 an j0 j1 j2 az aH aL aC;go_wp2_with fail
  go_loopw [24] (fun i wr=> ∃j:Nat,i= .int .i64 (j:Nat)∧j≤8∧wr.heap[o]? =some (.cells (qg .u64 (Qp R (qH h) j)) 252 (0,0))∧But o W7 wr) (fun i _=>8 - (intOf i).toNat)
  case atStart=>exact⟨0,rfl,by omega,M0.out,But.refl _ _⟩
  case round=>
   obtain⟨j,rfl,hj,q,I⟩:=hrel;have U:=hid q;have HB:=hid I;have ai:o+3≤wr.heap.size:=by have:=I.size;omega
   have aj:(qH h).length=16:=ad.out.1;by_cases Y:j<8
   case pos=>
    have c0:wr.cell? ⟨o+1+1,j,none⟩=some (.int .u32 (wd R j)):=by rw[qa ((I.block (o+1+1) (by omega) (by omega)).trans M2.out) j,yT (by rw[D.out.1];omega)]
    have ae:(Qp R (qH h) j).length=16:=by rw[yG (by rw[D.out.1];omega) (by omega),aj]
    have c1:wr.cell? ⟨o,j,none⟩=some (.int .u64 (wd (Qp R (qH h) j) j)):=by rw[qa q j,yT (by omega)]
    have f1:=frozen_of_row wr o j _ _ q;have O:=heap_setCell_same wr o j _ _ (.int .u64 (wd R j)) q;rw[qY,YX (by rw[D.out.1];omega) (by omega)]at O;have S:=yg D.out Y;have aP:IntKind.u64.wrap (wd R j)=wd R j:=u64_wrap_id _ S.1 (by have:=S.2;simp at this;omega);have ag:=hid O;have aJ:(j:Int)<8:=by omega
    generalize wd (Qp R (qH h) j) j=zo at c1;generalize wd R j=zj at*;obtain⟨aE,aF⟩:=S;clear O ae q I aj;go_wp2
    exact⟨⟨j+1,rfl,by omega,ag.out,HB.out.set _ _⟩,by simp[intOf];omega⟩
   obtain rfl:j=8:=by omega
   rw[Jg D.out.1 J.out.1]at q;have n1:=(I.block (o+1) (by omega) (by omega)).trans M1.out;have aM:Below o w wr:=aO.out.trans (I.below Nl (by omega));have ac:=qX (by decide) D.out;clear I aj hj Y U;go_wp2_with (first|((with_reducible show wpList _ _ _ (Oper.mk (some 89) _ _ _ _ _::_) _ _);refine wpList_load_row rfl 252 _ rfl o rfl _ _ _ _ q Tryz.underlying252 rfl (by rw[qd,ac.1];kernel_rfl) ?_)|((with_reducible show wpList _ _ _ (Oper.mk none (Op.store 252 _ _) _ _ _ _::_) _ _);refine wpList_store_row rfl 252 _ _ rfl (o+1) (qg .u64 (qH R)) rfl rfl 252 _ n1 (by rw[qd,ac.1];kernel_rfl) (by rw[qd,ac.1];rfl) qw ?_))
   exact Bp (results_cell_row rfl _ _ (o+1) 252 _ _ _ rfl (setRow_heap _ _ _ _ _ _ n1) Tryz.underlying252 rfl (by rw[qd,ac.1];kernel_rfl)) rfl ⟨rfl,by rw[G];exact below_setRow aM (by omega) _⟩
end Go.Proofs.YthjoojnlnlmljaaGreat
