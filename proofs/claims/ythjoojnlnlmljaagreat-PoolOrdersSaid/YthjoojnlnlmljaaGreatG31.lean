/- Lists of bytes in memory; all of them, one behind the other. No condition. -/
import Derived.Test.YthjoojnlnlmljaaGreatG24
import Derived.Test.YthjoojnlnlmljaaGreatG21
import Derived.Great.BuildSlice
import Derived.Test.YthjoojnlnlmljaaGreatG04
import Derived.Test.YthjoojnlnlmljaaGreatG29
import Derived.Test.YthjoojnlnlmljaaGreatG22
import Derived.Test.YthjoojnlnlmljaaGreatG14
import Derived.Test.YthjoojnlnlmljaaGreatG17
set_option linter.all false
set_option maxRecDepth 100000
set_option maxHeartbeats 8000000
namespace Go.Proofs.YthjoojnlnlmljaaGreat
open Go.ChangeShapes Go.WideShapes Go.ChangeAt Go.RowKit Go.Joins Go.Shelf Go.Maps
open Go.Lib (hid)
attribute [local go_sem] Oper.semAt_some
structure KB (B:Nat)(w w':World):Prop where
 os:w'.os=w.os
 tape:w'.tape=w.tape
 output:w'.output=w.output
 size:w.heap.size≤w'.heap.size
 block: ∀k:Nat,k<B→w'.heap[k]? =w.heap[k]?
 bytes: ∀(k:Nat) (c:Array Value),w.heap[k]? =some (.cells c 5 (0,0))→w'.heap[k]? =some (.cells c 5 (0,0))
namespace KB
variable {B:Nat} {w w' w'':World}
theorem refl (B:Nat)(w:World):KB B w w:=⟨rfl,rfl,rfl,Nat.le_refl _,fun _ _=>rfl,fun _ _ h=>h⟩
theorem trans (h:KB B w w')(k:KB B w' w''):KB B w w'':=⟨k.os.trans h.os,k.tape.trans h.tape,k.output.trans h.output,Nat.le_trans h.size k.size,fun j o=>(k.block j o).trans (h.block j o),fun j c q=>k.bytes j c (h.bytes j c q)⟩
theorem of_below (h:Below w.heap.size w w')(D:B≤w.heap.size):KB B w w':=⟨h.os,h.tape,h.output,h.size,fun k q=>h.block k (by omega),fun k c o=>(h.block k (Ai o).1).trans o⟩
theorem of_but {g:Nat}{c:Array Value}{T:TypeId}{fr:Nat×Nat}(h:But g w w')(O:B≤w.heap.size)(J:B≤g)(D:w.heap[g]? =some (.cells c T fr))(q:T≠5):KB B w w':=
 ⟨h.os,h.tape,h.output,h.size,fun k G=>h.block k (by omega) (by omega),fun k I o=>by
  rw[h.block k (Ai o).1 ?_];exact o;rintro rfl
  rw[D]at o;simp only[Option.some.injEq,Obj.cells.injEq]at o;exact q o.2.1⟩
theorem below (h:KB B w w'):Below B w w':=⟨h.os,h.tape,h.output,h.size,h.block⟩
end KB
theorem Fresh.kb {B b:Nat}{w w':World}{x:Value}{z:List Int}(h:Fresh B w x z)(k:KB b w w'):Fresh B w' x z:=by
 rcases h with h|⟨g,o,q,e,I,D,G⟩
 ·exact .inl h
 ·exact .inr ⟨g,o,q,e,I,k.bytes _ _ D,G⟩
theorem Y6 {B n:Nat}{w:World}{x:Value}{z:List Int}(h:w.ownsRow B 5 1 x n (z.map qt)):Fresh B w x z:=by
 have q:z.length=n:=by have:=h.1;simpa using this
 rcases h.2 with⟨rfl,V⟩|⟨g,o,D,rfl,J,G,X,O,U,I⟩
 ·exact .inl ⟨List.eq_nil_of_length_eq_zero (by omega),rfl⟩
 ·exact .inr ⟨g,o,D,by rw[q],J,G,by omega,by omega,O,by rw[q];simpa using I⟩
theorem own_kb {B b n:Nat}{w w':World}{x:Value}{D:List Value}(h:w.ownsRow B 5 1 x n D)(k:KB b w w'):w'.ownsRow B 5 1 x n D:=by
 refine⟨h.1,?_⟩;rcases h.2 with o|⟨g,q,G,e,J,o,I⟩
 ·exact .inl o
 ·exact .inr ⟨g,q,G,e,J,k.bytes _ _ o,I⟩
def OwnB (B:Nat)(w:World)(x:Value)(z:List Int):Prop:=(∀a∈z,0≤a∧a≤255)∧Fresh B w x z
theorem OwnB.kb {B b:Nat}{w w':World}{x:Value}{z:List Int}(h:OwnB B w x z)(k:KB b w w'):OwnB B w' x z:=⟨h.1,h.2.kb k⟩
theorem OwnB.hold {B:Nat}{w:World}{x:Value}{z:List Int}(h:OwnB B w x z):Hold w x z:=h.2.hold h.1
theorem OwnB.le {B b:Nat}{w:World}{x:Value}{z:List Int}(h:OwnB B w x z)(o:b≤B):OwnB b w x z:=⟨h.1,h.2.le o⟩
theorem OwnB.one {B:Nat}{w:World}{x:Value}{z:List Int}(h:OwnB B w x z):x.oneCell'=true:=by
 rcases h.2 with⟨-,rfl⟩|⟨g,o,q,rfl, -⟩<;>rfl
def qQ (L:List (List Int))(i:Nat):List Int:=L.getD i []
def ListO (B:Nat)(w:World)(v:Value)(L:List (List Int)):Prop:=
 ∃vs,w.ownsRow B 24 1 v L.length vs∧ ∀i,i<L.length→OwnB B w (vs.getD i undef) (qQ L i)
def ListH (w:World)(v:Value)(L:List (List Int)):Prop:=
 ∃a cap,v= .slice a L.length cap∧L.length≤cap∧(cap:Int)≤9223372036854775807∧(L=[]∨ ∃g off,a=some ⟨g,off,none⟩∧g<w.heap.size∧ ∀i,i<L.length→ ∃x,w.cell? ⟨g,off+i,none⟩=some x∧Hold w x (qQ L i))
theorem ListO.hold {B:Nat}{w:World}{v:Value}{L:List (List Int)}(h:ListO B w v L):ListH w v L:=by
 obtain⟨vs,G,J⟩:=h;have Y:vs.length=L.length:=by have:=G.1;simpa using this
 rcases G.2 with⟨rfl,D⟩|⟨g,I,q,rfl,h1,o,U,V,Z,O⟩
 ·exact⟨none,0,by rw[D],by omega,by omega,.inl (List.eq_nil_of_length_eq_zero D)⟩
 ·refine⟨_,I,rfl,U,by unfold maxLen at V;omega,.inr ⟨g,0,rfl,(Ai o).1,fun i X=>⟨vs.getD i undef,?_,(J i X).hold⟩⟩⟩;rw[qd o (0+i),Nat.zero_add];have e:q.toList[i]? =vs[i]? :=by rw[←O,List.getElem?_take,if_pos (by omega)]
  rw[←Array.getElem?_toList,e,Lg,List.getElem?_eq_getElem (by omega)];rfl
theorem ListH.below {w w':World}{v:Value}{L:List (List Int)}(h:ListH w v L)(q:Below w.heap.size w w'):ListH w' v L:=by
 obtain⟨a,D,rfl,X,I,o⟩:=h;refine⟨a,D,rfl,X,I,?_⟩;rcases o with o|⟨g,off,rfl,G,O⟩
 ·exact .inl o
 ·refine .inr ⟨g,off,rfl,Nat.lt_of_lt_of_le G q.size,fun i V=>?_⟩;obtain⟨x,J,U⟩:=O i V;exact⟨x,(q.cell (p:=⟨g,off+i,none⟩) G).trans J,U.below q⟩
theorem qhv {L:List (List Int)}{i:Nat}(o:i<L.length):qQ L i∈L:=by
 unfold qQ;rw[Lg,List.getElem?_eq_getElem o];exact List.getElem_mem o
theorem JU {L:List (List Int)}{k:Nat}(o:k<L.length):(L.take (k+1)).flatten=(L.take k).flatten++qQ L k:=by
 have e:L.take (k+1)=L.take k++[qQ L k]:=by
  unfold qQ;rw[List.take_succ,Lg,List.getElem?_eq_getElem o];rfl
 rw[e,List.flatten_append];simp
theorem qdl (L:List (List Int))(k:Nat):(L.take k).flatten.length≤L.flatten.length:=by
 conv=>rhs;rw[←List.take_append_drop k L,List.flatten_append,List.length_append]
 omega
theorem joined_ok (L:List (List Int))(v:Value)(w:World)(h:ListH w v L)(hn:L.flatten.length≤70368744177664):
  Calls Tryz.prog 66 #[v] w fun e w'=> ∃u,e= .returned u∧w'.ownsRow w.heap.size 5 1 u L.flatten.length (L.flatten.map qt)∧Below w.heap.size w w':=by
 obtain⟨i0,hi,ac,aa,Z⟩:=info_parts QD;obtain⟨O,D⟩:=Ex w.heap.size;have HH:=hid h;obtain⟨a,ah,rfl,ag,af, -⟩:=h;have ai:(L.length:Int)≤9223372036854775807:=by omega
 have HN:=hid hn;clear hn;go_enter Tryz.func66,Tryz.ntmps66
 go_wp2_with fail
 go_loopw [3,8] (fun s i wr=> ∃k:Nat,i= .int .i64 (k:Nat)∧k≤L.length∧wr.ownsRow O 5 1 s (L.take k).flatten.length ((L.take k).flatten.map qt)∧Below O w wr) (fun _ i _=>L.length - (intOf i).toNat)
 case atStart=>exact⟨0,rfl,Nat.zero_le _,Wo _ _ _ _,Below.refl _ _⟩
 case round=>
  obtain⟨k,rfl,hk,G,q⟩:=hrel;by_cases o:k<L.length
  case pos=>
   obtain⟨a',ad,e, -, -,h3⟩:=HH.out;obtain⟨g,off,rfl,h4,h5⟩:=h3.resolve_left (fun e=>by rw[e]at o;simp at o);simp only[Value.slice.injEq]at e;obtain⟨rfl, -, -⟩:=e;obtain⟨x,Y,U⟩:=h5 k o;have c0:wr.cell? ⟨g,off+k,none⟩=some x:=(q.cell (p:=⟨g,off+k,none⟩) (show g<O by omega)).trans Y;have aj:g<wr.heap.size:=by have:=q.size;omega
   have HX:=hid (U.below (D▸q)).src;have V:=hid G;have X:=hid q;have I:=qdl L (k+1);rw[JU o,List.length_append]at I;have HF:=hid I;have ae:(k:Int)<L.length:=by omega
   clear Y U h5 h4 h3 G q I;go_wp2_with (at_builtin;refine Qn rfl _ _ _ rfl w O D.symm X.out 5 i0 (.int .u8 0) 1 Tryz.underlying24 hi ac aa Z rfl _ _ _ rfl V.out _ _ _ rfl HX.out (by have:=HF.out;have:=HN.out;unfold maxLen;omega) (by have:=HF.out;have:=HN.out;omega) ?_;intro v' w' J ab)
   refine⟨⟨k+1,rfl,by omega,?_,ab⟩,by simp[intOf];omega⟩;rw[JU o,List.length_append,List.map_append];exact J
  obtain rfl:k=L.length:=by omega
  rw[List.take_length]at G;have V:=hid G;have X:=hid q;clear G q;go_wp2
  go_ret
  exact⟨_,rfl,D▸V.out,D▸X.out⟩
theorem yI {P:Program}{ops:Array Oper}{U:List Oper}{o:Oper}{a:Act}{Q:Exit→Act→World→Prop}{W:World}(ae:o.guard=none)(s x:Operand)(t:TypeId)
  (ho:o.op= .call { callee:= .builtin .append,args:= #[s,x],argTypes:= #[t,t] }) (B:Nat) (e:TypeId) (he:e≠5) (i:TypeInfo) (z:Value) (size D:Nat) (ht:P.underlying t=some (.slice e)) (hi:P.info? e=some i) (hz:i.zero=some z)
  (X:i.size=size) (af:i.bytes=D) (aa:z.cells.size=size) (ab:0<size) (v:Value) (n:Nat) (Y J:List Value) (T:TypeId) (hs:a.eval s=v) (G:W.ownsRow B e size v n Y)
  (hx:a.eval x= .slice (some ⟨W.heap.size,0,none⟩) 1 1) (hl:J.length=size) (h1: ∀u∈J,u.oneCell'=true) (ad:n+1≤maxLen) (O:(n+1)*D≤140737488355328) (hB:B≤W.heap.size)
  (h: ∀v' w',w'.ownsRow B e size v' (n+1) (Y++J)→KB B W w'→Spare (fun k=>v.ownBlock≠some k) W w'→wpList P ops Q U (a.put o.dst v') w'):wpList P ops Q (o::U) a (W.alloc (.cells J.toArray T)):=by
 refine wpList_append_own _ ae s x t ho B e i z size D ht hi hz X af aa ab v n Y hs (G.alloc _) ⟨W.heap.size,0,none⟩ 1 1 J hx (by omega) (fun j u hj=>?_) h1 ad O (by simp;omega) fun v' w' h2 h3 _=>?_
 ·rw[Go.WideShapes.add_plain,qd (Wn W _) (0+j),Nat.zero_add];simpa using hj
 have q:Spare (fun k=>v.ownBlock≠some k) W w':=(Spare.of_below _ (Br.alloc Nl _)).trans (Spare.of_grown h3) (fun _ _ h=>h);refine h v' w' h2 ⟨q.os,q.tape,q.output,q.size,fun k hk=>q.block k (by omega) (fun I=>?_),fun k c V=>?_⟩ q
 ·rcases G.2 with⟨rfl, -⟩|⟨g,ac,Z,rfl,h4, -⟩
  ·cases I
  ·simp only[Value.ownBlock,Option.some.injEq]at I;omega
 ·rw[q.block k (Ai V).1 (fun I=>?_)]
  ·exact V
  ·rcases G.2 with⟨rfl, -⟩|⟨g,ac,Z,rfl, -,h5, -⟩
   ·cases I
   ·simp only[Value.ownBlock,Option.some.injEq]at I;subst I;rw[h5]at V;simp only[Option.some.injEq,Obj.cells.injEq]at V;exact he V.2.1
theorem ListO.nil (B:Nat)(w:World):ListO B w (.slice none 0 0) []:=⟨[],Wo _ _ _ _,fun i o=>by simp at o⟩
theorem ListO.kb {B b:Nat}{w w':World}{v:Value}{L:List (List Int)}(h:ListO B w v L)(k:KB b w w')(O: ∀g,v.ownBlock=some g→w'.heap[g]? =w.heap[g]?):ListO B w' v L:=by
 obtain⟨vs,D,I⟩:=h;refine⟨vs,⟨D.1,?_⟩,fun i U=>(I i U).kb k⟩;rcases D.2 with o|⟨g,G,q,rfl,V,o,J⟩
 ·exact .inl o
 ·exact .inr ⟨g,G,q,rfl,V,(O g rfl).trans o,J⟩
theorem ListO.below {B:Nat}{w w':World}{v:Value}{L:List (List Int)}(h:ListO B w v L)(k:Below w.heap.size w w'):ListO B w' v L:=by
 refine h.kb (KB.of_below k (Nat.zero_le _)) fun g o=>?_
 obtain⟨vs,D, -⟩:=h;rcases D.2 with⟨rfl, -⟩|⟨J,G,I,rfl, -,q, -⟩
 ·cases o
 ·simp only[Value.ownBlock,Option.some.injEq]at o;subst o;exact k.block _ (Ai q).1
theorem ListO.le {B b:Nat}{w:World}{v:Value}{L:List (List Int)}(h:ListO B w v L)(o:b≤B):ListO b w v L:=by
 obtain⟨vs,G,D⟩:=h;exact⟨vs,ownsRow_le G o,fun i q=>(D i q).le o⟩
theorem ListO.snoc {B:Nat}{w w':World}{v' x:Value}{L:List (List Int)}{z:List Int}{vs:List Value}(G: ∀i,i<L.length→OwnB B w (vs.getD i undef) (qQ L i))(J:vs.length=L.length)(O:OwnB B w x z)
  (I:w'.ownsRow B 24 1 v' (L.length+1) (vs++[x])) (D:KB B w w'):ListO B w' v' (L++[z]):=by
 refine⟨vs++[x],by simpa using I,fun i U=>?_⟩;simp only[List.length_append,List.length_singleton]at U;by_cases h:i<L.length
 ·have o:(vs++[x]).getD i undef=vs.getD i undef:=by simp[Lg,List.getElem?_append_left (show i<vs.length by omega)]
  have q:qQ (L++[z]) i=qQ L i:=by simp[qQ,Lg,List.getElem?_append_left h]
  rw[o,q];exact(G i h).kb D
 ·obtain rfl:i=L.length:=by omega
  have o:(vs++[x]).getD L.length undef=x:=by simp[Lg,←J]
  have q:qQ (L++[z]) L.length=z:=by simp[qQ,Lg]
  rw[o,q];exact O.kb D
theorem YG:(Tryz.prog.info? 24).map (fun i=>(i.zero,i.size,i.bytes))=some (some (.slice none 0 0),1,24):=by kernel_rfl
theorem zS {ops:Array Oper}{q:List Oper}{o:Oper}{G:Act}{w:World}{Q:Exit→Act→World→Prop}(X:o.guard=none)(x:Operand)(U:o.op= .buildSlice 67 1 #[(0,x)])(a:Option Addr)(n k:Nat)(O:G.eval x= .slice a n k)
  (h:wpList Tryz.prog ops Q q (G.put o.dst (.slice (some ⟨w.heap.size,0,none⟩) 1 1)) (w.alloc (.cells #[.slice a n k] 24))):wpList Tryz.prog ops Q (o::q) G w:=by
 obtain⟨V,J,I,D, -⟩:=info_parts YG;exact wpList_buildSlice X 67 24 1 _ U #[.slice a n k] V _ Tryz.underlying67 J I (by rw[D];decide) (by rw[D];decide) (by rw[D,show Array.range (1*1)= #[0] by decide];simp[O,Instr.fill,Value.cells]) h
end Go.Proofs.YthjoojnlnlmljaaGreat
namespace Go.Proofs.YthjoojnlnlmljaaGreat
open Go.ChangeShapes Go.WideShapes Go.ChangeAt Go.RowKit Go.Joins Go.Shelf Go.Maps
open Go.Lib (hid)
theorem qde {n d j:Nat}(I:1≤d):j<qY n d↔j*d<n:=by
 have q:=Nat.div_add_mod n d;have G:=Nat.mod_lt n (show 0<d by omega);unfold qY;split
 ·rename_i D;rw[D,Nat.add_zero]at q;conv=>rhs;rw[←q,Nat.mul_comm]
  exact(Nat.mul_lt_mul_left (show 0<d by omega)).symm
 ·constructor
  ·intro h;have o:j*d≤(n/d)*d:=Nat.mul_le_mul_right d (by omega);rw[Nat.mul_comm (n/d) d]at o;omega
  ·intro h;have o:j*d<(n/d+1)*d:=by rw[Nat.add_mul,Nat.one_mul,Nat.mul_comm (n/d) d];omega
   exact Nat.lt_of_mul_lt_mul_right o
def qcl {α:Type}(n:Nat)(L:List α)(i:Nat):List α:=(L.drop (i*n)).take n
def qbo {α:Type}(n:Nat)(L:List α)(m:Nat):List (List α):=(List.range m).map (qcl n L)
theorem zT {α:Type}(n:Nat)(L:List α)(m:Nat):(qbo n L m).length=m:=by simp[qbo]
def yp (n:Nat)(zs:List Int):List (List Int):=if zs=[] then [[]] else qbo n zs (qY zs.length n)
def qcB (f:Nat)(L:List (List Int))(m:Nat):List (List Int):=(List.range m).map fun i=>(qcl f L i).flatten
theorem Zn (f:Nat)(L:List (List Int))(m:Nat):(qcB f L m).length=m:=by simp[qcB]
def TreeV.rootZ (t:TreeV)(row n:Nat):Bool:=decide (t.f=0∨(row:Int)=t.p - 1∨(n:Int)≤t.f)
def TreeV.upZ (t:TreeV)(row:Nat)(L:List (List Int)):List (List Int):=if t.rootZ row L.length then [L.flatten] else qcB t.fn L (qY L.length t.fn)
theorem zE {L M:List (List Int)}(h:M.Sublist L):M.flatten.length≤L.flatten.length:=by
 induction h with
 | slnil=>exact Nat.le_refl _
 | cons a _ ih=>simp only[List.flatten_cons,List.length_append];omega
 | cons_cons a _ ih=>simp only[List.flatten_cons,List.length_append];omega
theorem qck {α:Type}(n:Nat)(L:List α)(i:Nat):(qcl n L i).Sublist L:=(List.take_sublist _ _).trans (List.drop_sublist _ _)
theorem qgE (L:List (List Int))(k i:Nat):qQ (L.drop k) i=qQ L (k+i):=by simp[qQ,Lg,List.getElem?_drop]
theorem JM {big:Bool}{v:Nat→Nat}{z1 z2:List Int}(G:z1.length≤sB big)(q:z2.length≤sB big){i:Nat}(D:i<2*sB big):qr (QR big v z1 z2) i=qr (Qz big (v 7==0) v 9) i:=by
 have e:=QP big (v 7==0) v 9 (by omega);have o:4*sB big=mB big:=by cases big<;>decide
 unfold QR;rw[Yr (by rw[Qk (by omega)];omega),if_neg (by omega),Yr (by omega),if_neg (by omega)]
theorem qP {big o:Bool}{v:Nat→Nat}(k:Nat){i:Nat}(q:k+1≤9)(h: ¬(atB big (k+1)≤i∧i<atB big (k+1)+szB big (k+1))):qr (Qz big o v (k+1)) i=qr (Qz big o v k) i:=by
 rw[Qx big o v q i,if_neg (fun D=>h D.2)]
theorem JI {big q:Bool}{v:Nat→Nat}(k:Nat){i:Nat}(o:k+1≤9)(G:k+1≠7)(h:atB big (k+1)=i):qr (Qz big q v (k+1)) i=byt (v (k+1)) 0:=by
 have I:1≤szB big (k+1):=by
  have:=QY big false (k+1) (by omega) o
  simpa [szE] using this.1
 rw[Qx big q v o i,if_pos ⟨fun D=>G D.1,by omega,by omega⟩,←h,Nat.sub_self]
theorem jA {x:Nat}(h:x≤255):byt x 0=(x:Int):=by
 have:=zM x 0
 simp at this
 omega
theorem qfU {big:Bool}{v:Nat→Nat}{z1 z2:List Int}(hP:ParOk big v)(D:z1.length≤sB big)(q:z2.length≤sB big):okD big false (QR big v z1 z2)∧qr (QR big v z1 z2) 1=(v 2:Nat):=by
 have hs:8≤sB big:=by cases big<;>decide
 have hm:mB big≤64:=by cases big<;>decide
 obtain⟨p1,U,p3,Z, -,p6,J⟩:=hP.p;have V:qr (QR big v z1 z2) 0=(v 1:Nat):=by
  rw[JM D q (by omega),qP 8 (by omega) (by cases big<;>decide),qP 7 (by omega) (by cases big<;>decide),qP 6 (by omega) (by cases big<;>decide),qP 5 (by omega) (by cases big<;>decide),qP 4 (by omega) (by cases big<;>decide),
   qP 3 (by omega) (by cases big<;>decide),qP 2 (by omega) (by cases big<;>decide),qP 1 (by omega) (by cases big<;>decide),JI 0 (by omega) (by omega) (by cases big<;>rfl)]
  exact jA (x:=v 1) (by omega)
 have G:qr (QR big v z1 z2) 1=(v 2:Nat):=by
  rw[JM D q (by omega),qP 8 (by omega) (by cases big<;>decide),qP 7 (by omega) (by cases big<;>decide),qP 6 (by omega) (by cases big<;>decide),qP 5 (by omega) (by cases big<;>decide),qP 4 (by omega) (by cases big<;>decide),
   qP 3 (by omega) (by cases big<;>decide),qP 2 (by omega) (by cases big<;>decide),JI 1 (by omega) (by omega) (by cases big<;>rfl)]
  exact jA (x:=v 2) (by omega)
 have Y:qr (QR big v z1 z2) 3=(v 4:Nat):=by
  rw[JM D q (by omega),qP 8 (by omega) (by cases big<;>decide),qP 7 (by omega) (by cases big<;>decide),qP 6 (by omega) (by cases big<;>decide),qP 5 (by omega) (by cases big<;>decide),qP 4 (by omega) (by cases big<;>decide),
   JI 3 (by omega) (by omega) (by cases big<;>rfl)]
  exact jA (x:=v 4) (by omega)
 have X:atB big 9<2*sB big:=by cases big<;>decide
 have O:qr (QR big v z1 z2) (atB big 9)=(v 9:Nat):=by
  rw[JM D q X,JI 8 (by omega) (by omega) rfl];exact jA (x:=v 9) (by omega)
 refine⟨⟨yh D q,fun hb i i1 i2=>?_,fun h=>(by cases h),?_⟩,G⟩
 ·subst hb;have I:i<2*sB true:=i2;have o: ∀k,k<9→ ¬(atB true (k+1)≤i∧i<atB true (k+1)+szB true (k+1)):=fun k hk h=>by
   have:atB true (k+1)+szB true (k+1)≤18:=by
    rcases(show k=0∨k=1∨k=2∨k=3∨k=4∨k=5∨k=6∨k=7∨k=8 by omega)with rfl|rfl|rfl|rfl|rfl|rfl|rfl|rfl|rfl<;>decide
   omega
  rw[JM D q I,qP 8 (by omega) (o 8 (by omega)),qP 7 (by omega) (o 7 (by omega)),qP 6 (by omega) (o 6 (by omega)),qP 5 (by omega) (o 5 (by omega)),qP 4 (by omega) (o 4 (by omega)),qP 3 (by omega) (o 3 (by omega)),
   qP 2 (by omega) (o 2 (by omega)),qP 1 (by omega) (o 1 (by omega)),qP 0 (by omega) (o 0 (by omega)),jy]
 ·rw[V,G,Y,O];exact⟨p1,U,fun _=>Z.1,J⟩
end Go.Proofs.YthjoojnlnlmljaaGreat
namespace Go.Proofs.YthjoojnlnlmljaaGreat
open Go.ChangeShapes Go.WideShapes Go.ChangeAt Go.RowKit Go.Joins Go.Shelf Go.Maps
open Go.Lib (hid)
attribute [local go_sem] Oper.semAt_some
theorem qgC {zs:List Int}{i p n:Nat}(h:i<n):qr ((zs.drop p).take n) i=qr zs (p+i):=by
 unfold qr;simp[Lg,List.getElem?_take,h,List.getElem?_drop]
theorem J7 {w w':World}{a:Option Addr}{n c:Nat}{zs:List Int}(h:Hold w (.slice a n c) zs)(G:Below w.heap.size w w'){j:Nat}(o:j<zs.length): ∃b off,a=some ⟨b,off,none⟩∧b<w'.heap.size∧w'.cell? ⟨b,off+j,none⟩=some (.int .u8 (qr zs j))∧0≤qr zs j∧qr zs j≤255:=by
 have q:zs≠[]:=fun e=>by rw[e]at o;simp at o
 rcases h.2 with⟨I, -⟩|⟨V,U,e, -, -,J⟩
 ·exact absurd I q
 ·obtain⟨b,off,rfl,D,O⟩:=J.resolve_left q;simp only[Value.slice.injEq]at e;exact⟨b,off,e.1,Nat.lt_of_lt_of_le D G.size,(G.cell (p:=⟨b,off+j,none⟩) D).trans (O j o),(qU h.1 o).2⟩
theorem jl (o n:Nat)(h:o+n<9223372036854775808)(w:World):
  Calls Tryz.prog 177 #[.int .u64 (o:Nat),.int .u64 0,.int .u64 (n:Nat)] w fun e w'=>e= .returned (.tuple #[.int .u64 ((o+n:Nat):Int),.int .u64 0,.bool false])∧w'=w:=by
 have G:IntKind.u64.wrap ((o:Int)+n)=(o:Int)+n:=u64_wrap_id _ (by omega) (by omega);have D: ¬((o:Int)+n<o):=by omega
 have q:(o:Int)≤(o:Int)+n:=by omega
 rw[Int.natCast_add];clear h;go_enter Tryz.func177,Tryz.ntmps177
 go_wp2
 exact Bp (results_tmp3 (fn:=Tryz.f177) (t:=6) (u:=7) (v:=8) rfl _ _ _) rfl ⟨rfl,rfl⟩
theorem Jt {n:Nat}{x:List Int}{j:Nat}(D:j<n)(o:x.length≤n):(QC n x).take (j+1)=(QC n x).take j++[if j<x.length then qr x j else 0]:=by
 have q:=QI o;rw[jf (zs:=QC n x) (by omega)];congr 2
 unfold QC qr;simp only[Lg];by_cases h:j<x.length
 ·rw[if_pos h,List.getElem?_append_left h]
 ·rw[if_neg h,List.getElem?_append_right (by omega),List.getElem?_replicate,if_pos (by omega)];rfl
theorem jk (zs:List Int)(v:Value)(p n:Nat)(w:World)(h:Hold w v zs)(hn:n≤65535)(hp:p≤zs.length)(hm:(zs.length:Int)≤281474976710656):
  Calls Tryz.prog 180 #[v,.int .i64 (p:Nat),.int .i64 (n:Nat)] w fun e w'=> ∃v',e= .returned v'∧w'.ownsRow w.heap.size 5 1 v' n ((QC n ((zs.drop p).take n)).map qt)∧Below w.heap.size w w':=by
 obtain⟨i0,hi,ah,af,ab⟩:=info_parts QD;obtain⟨a,av,rfl,au,aq⟩:=h.slice;have HH:=hid h;obtain⟨X,Z⟩:=Ex ((zs.drop p).take n);have ae:X.length=min n (zs.length - p):=by rw[←Z];simp
 have ad: ∀j,j<X.length→qr X j=qr zs (p+j):=fun j hj=>by rw[←Z];exact qgC (by omega)
 have ac:=QI (n:=n) (zs:=X) (by omega);rw[Z];have U:=hid ae;have al:=hid ad;have aj:=hid ac;clear h Z ae ad ac;go_enter Tryz.func180,Tryz.ntmps180
 go_wp2_with fail
 go_loopw [7,8] (fun b i wr=> ∃j:Nat,i= .int .i64 (j:Nat)∧j≤n∧wr.ownsRow w.heap.size 5 1 b j (((QC n X).take j).map qt)∧Below w.heap.size w wr) (fun _ i _=>n - (intOf i).toNat)
 case atStart=>exact⟨0,rfl,Nat.zero_le _,by simpa using Wo w w.heap.size 5 1,Below.refl _ _⟩
 case round=>
  obtain⟨j,rfl,hj,G,Y⟩:=hrel;have q:=hid Y;have O:=hid G;obtain⟨a1,n1,c1,rfl⟩:=qu G;by_cases am:j<n
  case neg=>
   obtain rfl:j=n:=by omega
   clear G Y;go_wp2
   go_ret
   refine⟨_,rfl,?_,q.out⟩;have:=O.out
   rwa[List.take_of_length_le (by rw[aj.out];exact Nat.le_refl _)]at this
  have ag:=Jt (x:=X) am (by have:=U.out;omega);have J:=hid ag;clear ag G;by_cases an:p+j<zs.length
  case pos=>
   have aa:j<X.length:=by have:=U.out;omega
   have I:=J.out;rw[if_pos aa,al.out j aa]at I;have HZ:=hid I;obtain⟨bb,ar,rfl,q1,q2,q3,q4⟩:=J7 HH.out Y an;have ak:(p:Int)+j<zs.length:=by omega
   have ai:0≤(p:Int)+j∧(p:Int)+j<9223372036854775808:=by omega
   obtain⟨ap,ao⟩:=ai;generalize qr zs (p+j)=z at*;clear Y I J;go_wp2_with (at_builtin;refine wpList_append_own _ rfl _ _ 24 rfl w.heap.size 5 i0 (.int .u8 0) 1 1 Tryz.underlying24 hi ah af ab rfl (by decide) _ _ _ rfl (O.out.alloc _) ⟨wr.heap.size,0,none⟩ 1 1 [.int .u8 z] rfl rfl (cell_one_new _ _ _) (by simp[Value.oneCell']) (by unfold maxLen;omega) (by omega) (by simp;have:=q.out.size;omega) ?_;intro v' w6 D o _;have V:Below w.heap.size w w6:=(q.out.alloc q.out.size _).grown o (by simp;have:=q.out.size;omega) (fun k e=>(O.out.lt k e).1))
   refine⟨⟨j+1,rfl,by omega,by rw[HZ.out,List.map_append];exact D,V⟩,by simp[intOf];omega⟩
  have I:=J.out;rw[if_neg (by have:=U.out;omega)]at I;have HZ:=hid I;have ak: ¬((p:Int)+j<zs.length):=by omega
  clear Y I J;go_wp2_with (at_builtin;refine wpList_append_own _ rfl _ _ 24 rfl w.heap.size 5 i0 (.int .u8 0) 1 1 Tryz.underlying24 hi ah af ab rfl (by decide) _ _ _ rfl (O.out.alloc _) ⟨wr.heap.size,0,none⟩ 1 1 [.int .u8 0] rfl rfl (cell_one_new _ _ _) (by simp[Value.oneCell']) (by unfold maxLen;omega) (by omega) (by simp;have:=q.out.size;omega) ?_;intro v' w6 D o _;have V:Below w.heap.size w w6:=(q.out.alloc q.out.size _).grown o (by simp;have:=q.out.size;omega) (fun k e=>(O.out.lt k e).1))
  refine⟨⟨j+1,rfl,by omega,by rw[HZ.out,List.map_append];exact D,V⟩,by simp[intOf];omega⟩
theorem qdR (big:Bool)(zs:List Int)(v:Value)(w:World)(h:Hold w v zs)(hk:zs.length≤mB big):
  Calls Tryz.prog 175 #[.int .i64 (kB big),v] w fun e w'=> ∃v',e= .returned v'∧w'.ownsRow w.heap.size 5 1 v' (yk (bB big) zs).length ((yk (bB big) zs).map qt)∧Below w.heap.size w w':=by
 obtain⟨i0,hi,ae,ac,ab⟩:=info_parts QD;obtain⟨a,ao,rfl,an,ak⟩:=h.slice;have U:mB big≤bB big∧bB big≤128:=by cases big<;>decide
 obtain⟨n,hn⟩:=Ex (bB big);have V:=hid (fun(W:World)=>YQ big W);rw[hn]at V U⊢;have HH:=hid h;have ah:=hid U;by_cases h0:zs.length=0
 case pos=>
  have e:yk n zs=[]:=by unfold yk;rw[if_pos h0]
  rw[e];obtain rfl:zs=[]:=List.eq_nil_of_length_eq_zero h0;clear U h hn hk;go_enter Tryz.func175,Tryz.ntmps175
  go_wp2
  go_ret
  exact⟨_,rfl,Wo _ _ _ _,Below.refl _ _⟩
 have e:yk n zs=QC n zs:=by unfold yk;rw[if_neg h0]
 have Z:=QI (n:=n) (zs:=zs) (by omega);rw[e,Z];have af:=hid Z;have aj:0<zs.length:=by omega
 have ar:((zs.length:Int)==0)=false:=beq_eq_false_iff_ne.2 (by omega);have am:(zs.length:Int)≤128:=by omega
 have ap:(n:Int)≤128:=by omega
 have HK:=hid hk;clear h Z e h0 U hn hk;go_enter Tryz.func175,Tryz.ntmps175
 go_wp2_with fail
 go_loopw [5,6] (fun b i wr=> ∃j:Nat,i= .int .i64 (j:Nat)∧j≤n∧wr.ownsRow w.heap.size 5 1 b j (((QC n zs).take j).map qt)∧Below w.heap.size w wr) (fun _ i _=>n - (intOf i).toNat)
 case atStart=>exact⟨0,rfl,Nat.zero_le _,by simpa using Wo w w.heap.size 5 1,Below.refl _ _⟩
 case round=>
  obtain⟨j,rfl,hj,G,hb⟩:=hrel;have q:=hid hb;have X:=hid G;obtain⟨a1,n1,c1,rfl⟩:=qu G;by_cases ai:j<n
  case neg=>
   obtain rfl:j=n:=by omega
   clear G hb;go_wp2_with fail
   refine(V.out _).mono ?_;rintro e w4 ⟨rfl,I⟩;rw[I];clear I;go_wp2
   go_ret
   refine⟨_,rfl,?_,q.out⟩;have:=X.out
   rwa[List.take_of_length_le (by rw[af.out];exact Nat.le_refl _)]at this
  have ad:=Jt (x:=zs) ai (by have:=ah.out;have:=HK.out;omega);have O:=hid ad;have aq:(j:Int)<n:=by omega
  clear ad G;by_cases aa:j<zs.length
  case pos=>
   have J:=O.out;rw[if_pos aa]at J;have HZ:=hid J;obtain⟨bb,al,rfl,q1,q2,q3,q4⟩:=J7 HH.out hb aa;have ag:(j:Int)<zs.length:=by omega
   generalize qr zs j=z at*;clear hb J O;go_wp2_with fail
   refine(V.out _).mono ?_;rintro e w4 ⟨rfl,I⟩;rw[I];clear I;go_wp2_with (at_builtin;refine wpList_append_own _ rfl _ _ 24 rfl w.heap.size 5 i0 (.int .u8 0) 1 1 Tryz.underlying24 hi ae ac ab rfl (by decide) _ _ _ rfl (X.out.alloc _) ⟨wr.heap.size,0,none⟩ 1 1 [.int .u8 z] rfl rfl (cell_one_new _ _ _) (by simp[Value.oneCell']) (by unfold maxLen;omega) (by omega) (by simp;have:=q.out.size;omega) ?_;intro v' w6 D o _;have Y:Below w.heap.size w w6:=(q.out.alloc q.out.size _).grown o (by simp;have:=q.out.size;omega) (fun k e=>(X.out.lt k e).1))
   refine⟨⟨j+1,rfl,by omega,by rw[HZ.out,List.map_append];exact D,Y⟩,by simp[intOf];omega⟩
  have J:=O.out;rw[if_neg aa]at J;have HZ:=hid J;have ag: ¬((j:Int)<zs.length):=by omega
  clear hb J O;go_wp2_with fail
  refine(V.out _).mono ?_;rintro e w4 ⟨rfl,I⟩;rw[I];clear I;go_wp2_with (at_builtin;refine wpList_append_own _ rfl _ _ 24 rfl w.heap.size 5 i0 (.int .u8 0) 1 1 Tryz.underlying24 hi ae ac ab rfl (by decide) _ _ _ rfl (X.out.alloc _) ⟨wr.heap.size,0,none⟩ 1 1 [.int .u8 0] rfl rfl (cell_one_new _ _ _) (by simp[Value.oneCell']) (by unfold maxLen;omega) (by omega) (by simp;have:=q.out.size;omega) ?_;intro v' w6 D o _;have Y:Below w.heap.size w w6:=(q.out.alloc q.out.size _).grown o (by simp;have:=q.out.size;omega) (fun k e=>(X.out.lt k e).1))
  refine⟨⟨j+1,rfl,by omega,by rw[HZ.out,List.map_append];exact D,Y⟩,by simp[intOf];omega⟩
def qL (h:List Int):List Int:=h++List.replicate 8 0
theorem Qd {N:Nat}(D:N≤64){h:List Int}(q:Words N 8 h):Words 64 16 (qL h):=by
 refine⟨by simp[qL,q.1],fun z o=>?_⟩;rcases List.mem_append.1 o with o|o
 ·have:=q.2 z o
  have G:(2:Int)^N≤2^64:=by exact_mod_cast Nat.pow_le_pow_right (by omega) D
  omega
 ·rw[List.eq_of_mem_replicate o];decide
theorem qaV {h:List Int}(o:h.length=8){j:Nat}(q:j<8):wd (qL h) j=wd h j:=by
 unfold wd qL;simp[Lg,List.getElem?_append_left (show j<h.length by omega)]
def Qw (h b:List Int)(j:Nat):List Int:=h.take j++b.drop j
theorem Y9 {h b:List Int}{j:Nat}(o:j<h.length)(q:j<b.length):(Qw h b j).set j (wd h j)=Qw h b (j+1):=by
 have D:h.take (j+1)=h.take j++[wd h j]:=by
  rw[List.take_succ_eq_append_getElem o];simp[wd,Lg,o]
 have G:b.drop j=b[j]::b.drop (j+1):=List.drop_eq_getElem_cons q;have I:(h.take j).length=j:=by simp;omega
 unfold Qw;rw[D,G,List.set_append_right _ _ (by omega),I,Nat.sub_self,List.set_cons_zero];simp
theorem yP {h b:List Int}{j:Nat}(q:j≤h.length)(o:j≤b.length):(Qw h b j).length=b.length:=by simp[Qw];omega
theorem Yd {k:IntKind}{L:List Int}{j:Nat}(o:j<L.length):(qi k L)[j]? =some (.int k (wd L j)):=by
 simp[qi,wd,Lg,o]
theorem Holds8.mono_below' {w w':World}{v:Value}{zs:List Int}{B:Nat}(h:Holds8 w v zs)(o:Below B w w')(q:w.heap.size≤B):Holds8 w' v zs:=Qc h (o.mono q)
def Z8:List Int:=List.replicate 8 0
theorem JG {R h:List Int}(q:R.length=8)(o:h.length=8):Qw R (qL h) 8=qL R:=by
 unfold Qw qL;rw[List.take_of_length_le (by omega),List.drop_append_of_le_length (by omega),List.drop_of_length_le (by omega),List.nil_append]
theorem qbg (h bs:List Int)(hh:Words 64 8 h)(v:Value)(lo:Nat)(ap:(lo:Int)<9223372036854775808)(O node:Bool)(w:World)(hH:Holds8 w v bs)(hz: ∀z∈bs,0≤z∧z≤255)(hl:bs.length=128):
  Calls Tryz.prog 179 #[.int .i64 1,.agg (qi .u64 (qL h)),v,.int .u64 (lo:Nat),.int .u64 0,.bool O,.bool node] w fun e w'=>e= .returned (.agg (qi .u64 (qL (yq true h bs (lo:Nat) O node))))∧Below w.heap.size w w':=by
 obtain⟨o,I⟩:=Ex w.heap.size;have ae:=ya 8 16 hz (by rw[hl]);obtain⟨M,hM⟩:=Ex (QU 8 16 bs);obtain⟨R,hR⟩:=Ex (yq true h bs (lo:Nat) O node);have ay:Words 64 8 R:=by rw[←hR];exact QQ true hh _ _ _ _
 have aq:zK mixBig IVb 12 h M (lo:Nat) 0 O node=R:=by rw[←hR,←hM];rfl
 rw[hR];rw[hM]at ae;have aj:=Qd (by decide) hh;have au: ∀j,j<8→wd (qL h) j=wd h j:=fun j hj=>qaV hh.1 hj
 have aI:=hid hM;have aD:=hid aq;have aM:=hid hl;have aQ:=hid ap;have ac:=hid ae;have D:=hid ay;have J:=hid hh;have ad:=hid aj;have aF:=hid au;have aJ:=hid hz;have aB:=hid hH;clear hM hR aq hl ap ae ay au aj hz hH hh;go_enter Tryz.func179,Tryz.ntmps179
 go_wp2_with fail
 have aS:(((w.alloc (.cells (qi .u64 (qL h)) 252)).alloc (.cells #[.int .u64 0,.int .u64 0,.int .u64 0,.int .u64 0,.int .u64 0,.int .u64 0,.int .u64 0,.int .u64 0,.int .u64 0,.int .u64 0,.int .u64 0,.int .u64 0,.int .u64 0,.int .u64 0,.int .u64 0,.int .u64 0] 252)).alloc (.cells (qi .u64 Z8) 274)).heap.size=o+3:=by simp[I]
 have r0:(((w.alloc (.cells (qi .u64 (qL h)) 252)).alloc (.cells #[.int .u64 0,.int .u64 0,.int .u64 0,.int .u64 0,.int .u64 0,.int .u64 0,.int .u64 0,.int .u64 0,.int .u64 0,.int .u64 0,.int .u64 0,.int .u64 0,.int .u64 0,.int .u64 0,.int .u64 0,.int .u64 0] 252)).alloc (.cells (qi .u64 Z8) 274)).heap[o]? =some (.cells (qi .u64 (qL h)) 252 (0,0)):=by
  rw[Bh _ _ _ (by simp[I];omega),Bh _ _ _ (by simp[I]),←I];exact Wn _ _
 have r1:(((w.alloc (.cells (qi .u64 (qL h)) 252)).alloc (.cells #[.int .u64 0,.int .u64 0,.int .u64 0,.int .u64 0,.int .u64 0,.int .u64 0,.int .u64 0,.int .u64 0,.int .u64 0,.int .u64 0,.int .u64 0,.int .u64 0,.int .u64 0,.int .u64 0,.int .u64 0,.int .u64 0] 252)).alloc (.cells (qi .u64 Z8) 274)).heap[o+1]? =some (.cells #[.int .u64 0,.int .u64 0,.int .u64 0,.int .u64 0,.int .u64 0,.int .u64 0,.int .u64 0,.int .u64 0,.int .u64 0,.int .u64 0,.int .u64 0,.int .u64 0,.int .u64 0,.int .u64 0,.int .u64 0,.int .u64 0] 252 (0,0)):=by
  rw[Bh _ _ _ (by simp[I]),show o+1=(w.alloc (.cells (qi .u64 (qL h)) 252)).heap.size by simp[I]];exact Wn _ _
 have r2:(((w.alloc (.cells (qi .u64 (qL h)) 252)).alloc (.cells #[.int .u64 0,.int .u64 0,.int .u64 0,.int .u64 0,.int .u64 0,.int .u64 0,.int .u64 0,.int .u64 0,.int .u64 0,.int .u64 0,.int .u64 0,.int .u64 0,.int .u64 0,.int .u64 0,.int .u64 0,.int .u64 0] 252)).alloc (.cells (qi .u64 Z8) 274)).heap[o+1+1]? =some (.cells (qi .u64 (Qw h Z8 0)) 274 (0,0)):=by
  rw[show o+1+1=((w.alloc (.cells (qi .u64 (qL h)) 252)).alloc (.cells #[.int .u64 0,.int .u64 0,.int .u64 0,.int .u64 0,.int .u64 0,.int .u64 0,.int .u64 0,.int .u64 0,.int .u64 0,.int .u64 0,.int .u64 0,.int .u64 0,.int .u64 0,.int .u64 0,.int .u64 0,.int .u64 0] 252)).heap.size by simp[I]];exact Wn _ _
 have ax:Below o w (((w.alloc (.cells (qi .u64 (qL h)) 252)).alloc (.cells #[.int .u64 0,.int .u64 0,.int .u64 0,.int .u64 0,.int .u64 0,.int .u64 0,.int .u64 0,.int .u64 0,.int .u64 0,.int .u64 0,.int .u64 0,.int .u64 0,.int .u64 0,.int .u64 0,.int .u64 0,.int .u64 0] 252)).alloc (.cells (qi .u64 Z8) 274)):=by rw[←I];exact((Br.alloc Nl _).alloc (by simp) _).alloc (by simp;omega) _
 change Code.wp _ _ _ _ (((w.alloc (.cells (qi .u64 (qL h)) 252)).alloc (.cells #[.int .u64 0,.int .u64 0,.int .u64 0,.int .u64 0,.int .u64 0,.int .u64 0,.int .u64 0,.int .u64 0,.int .u64 0,.int .u64 0,.int .u64 0,.int .u64 0,.int .u64 0,.int .u64 0,.int .u64 0,.int .u64 0] 252)).alloc (.cells (qi .u64 Z8) 274))
 generalize (((w.alloc (.cells (qi .u64 (qL h)) 252)).alloc (.cells #[.int .u64 0,.int .u64 0,.int .u64 0,.int .u64 0,.int .u64 0,.int .u64 0,.int .u64 0,.int .u64 0,.int .u64 0,.int .u64 0,.int .u64 0,.int .u64 0,.int .u64 0,.int .u64 0,.int .u64 0,.int .u64 0] 252)).alloc (.cells (qi .u64 Z8) 274))=W3 at*;have R0:=hid r0;have R1:=hid r1;have R2:=hid r2;have ak:=hid ax;clear r0 r1 r2 ax;go_loopw [16] (fun i wr=> ∃j:Nat,i= .int .i64 (j:Nat)∧j≤8∧wr.heap[o+1+1]? =some (.cells (qi .u64 (Qw h Z8 j)) 274 (0,0))∧But (o+1+1) W3 wr) (fun i _=>8 - (intOf i).toNat)
 case atStart=>exact⟨0,rfl,by omega,R2.out,But.refl _ _⟩
 case round=>
  obtain⟨j,rfl,hj,q,G⟩:=hrel;have U:=hid q;have HB:=hid G;have al:o+3≤wr.heap.size:=by have:=G.size;omega
  by_cases X:j<8
  case pos=>
   have c0:wr.cell? ⟨o,j,none⟩=some (.int .u64 (wd h j)):=by
    rw[qd ((G.block o (by omega) (by omega)).trans R0.out) j,Yd (by rw[ad.out.1];omega),aF.out j X]
   have ah:(Qw h Z8 j).length=8:=yP (by rw[J.out.1];omega) (by show j≤8;omega);have c1:wr.cell? ⟨o+1+1,j,none⟩=some (.int .u64 (wd (Qw h Z8 j) j)):=by rw[qd q j,Yd (by omega)]
   have f1:=frozen_of_row wr (o+1+1) j _ _ q;have V:=heap_setCell_same wr (o+1+1) j _ _ (.int .u64 (wd h j)) q;rw[Qe,Y9 (by rw[J.out.1];omega) (by show j<8;omega)]at V;have af:=yl J.out X;have ai:=hid V;have aK:(j:Int)<8:=by omega
   generalize wd (Qw h Z8 j) j=zo at c1;generalize wd h j=zj at*;obtain⟨aG,aE⟩:=af;clear V ah q G;go_wp2
   exact⟨⟨j+1,rfl,by omega,ai.out,HB.out.set _ _⟩,by simp[intOf];omega⟩
  obtain rfl:j=8:=by omega
  rw[show Qw h Z8 8=h by unfold Qw;rw[List.take_of_length_le (by rw[J.out.1];omega)];simp[Z8]]at U;have aA:=aB.out.mono_below' (ak.out.trans (G.below (by omega) (by omega))) (by omega);have av:=hid aA;clear q G aA hj X;go_wp2_with fail
  refine(qbU bs v _ av.out aJ.out aM.out).mono ?_;rintro e w1 ⟨rfl,Y⟩;rw[aI.out];have aN:=Y.size;have k0:=qg ((HB.out.block o (by omega) (by omega)).trans R0.out) Y;have k1:=qg ((HB.out.block (o+1) (by omega) (by omega)).trans R1.out) Y;have k2:=qg U.out Y;have aw:Below o w w1:=(ak.out.trans (HB.out.below (by omega) (by omega))).trans (Y.mono (by omega));have K0:=hid k0;have K1:=hid k1;have K2:=hid k2;have an:=hid aw;clear k0 k1 k2 aw Y HB U R0 R1 R2 ak av;go_upto_region 8 with((with_reducible show wpList _ _ _ (Oper.mk none (Op.store 252 _ _) _ _ _ _::_) _ _);refine wpList_store_row rfl 252 _ _ rfl w1.heap.size (qi .u64 M) rfl rfl 252 _ (Wn _ _) (by rw[qf,ac.out.1];kernel_rfl) (by rw[qf,ac.out.1];rfl) qA ?_)
  refine qm ?_;intro W hW;obtain⟨bv,ag⟩:=Ex w1.heap.size;have g0:W.heap[o]? =some (.cells (qi .u64 (qL h)) 252 (0,0)):=by rw[hW];exact(setRow_other (w1.alloc _) _ _ _ (by omega)).trans ((Bh _ _ _ (by omega)).trans K0.out)
  have g1:W.heap[o+1]? =some (.cells #[.int .u64 0,.int .u64 0,.int .u64 0,.int .u64 0,.int .u64 0,.int .u64 0,.int .u64 0,.int .u64 0,.int .u64 0,.int .u64 0,.int .u64 0,.int .u64 0,.int .u64 0,.int .u64 0,.int .u64 0,.int .u64 0] 252 (0,0)):=by rw[hW];exact(setRow_other (w1.alloc _) _ _ _ (by omega)).trans ((Bh _ _ _ (by omega)).trans K1.out)
  have g2:W.heap[o+1+1]? =some (.cells (qi .u64 h) 274 (0,0)):=by rw[hW];exact(setRow_other (w1.alloc _) _ _ _ (by omega)).trans ((Bh _ _ _ (by omega)).trans K2.out)
  have g3:W.heap[bv]? =some (.cells (qi .u64 M) 252 (0,0)):=by rw[hW,←ag];exact setRow_heap _ _ _ _ _ _ (Wn _ _)
  have ao:Below o w W:=by rw[hW];exact below_setRow (an.out.alloc (by omega) _) (by omega) _
  rw[ag];have aC:o+3≤bv:=by omega
  clear hW ag K0 K1 K2 an aN al;go_wp2_with (first|((with_reducible show wpList _ _ _ (Oper.mk (some 41) _ _ _ _ _::_) _ _);refine wpList_load_row rfl 274 _ rfl (o+1+1) rfl _ _ _ _ g2 Tryz.underlying274 rfl (by rw[qf,J.out.1];kernel_rfl) ?_)|((with_reducible show wpList _ _ _ (Oper.mk (some 42) _ _ _ _ _::_) _ _);refine wpList_load_row rfl 252 _ rfl bv rfl _ _ _ _ g3 Tryz.underlying252 rfl (by rw[qf,ac.out.1];kernel_rfl) ?_))
  refine(qiR h M J.out ac.out (lo:Nat) 0 O node _).mono ?_;rintro e w2 ⟨rfl,aa⟩;rw[aD.out];have aH:=aa.size;have aL:=(Ai g3).1;have j0:=qg g0 aa;have j1:=qg g1 aa;have j2:=qg g2 aa;have az:Below o w w2:=ao.trans (aa.mono (by omega));clear g0 g1 g2 g3 ao aa;go_upto_region 9 with((with_reducible show wpList _ _ _ (Oper.mk none (Op.store 274 _ _) _ _ _ _::_) _ _);refine wpList_store_row rfl 274 _ _ rfl (o+1+1) (qi .u64 R) rfl rfl 274 _ j2 (by rw[qf,D.out.1];kernel_rfl) (by rw[qf,qf,D.out.1,J.out.1]) qA ?_)
  refine qm ?_;intro W7 Z;have m0:W7.heap[o]? =some (.cells (qi .u64 (Qw R (qL h) 0)) 252 (0,0)):=by rw[Z];exact(setRow_other w2 _ _ _ (by omega)).trans j0
  have m1:W7.heap[o+1]? =some (.cells #[.int .u64 0,.int .u64 0,.int .u64 0,.int .u64 0,.int .u64 0,.int .u64 0,.int .u64 0,.int .u64 0,.int .u64 0,.int .u64 0,.int .u64 0,.int .u64 0,.int .u64 0,.int .u64 0,.int .u64 0,.int .u64 0] 252 (0,0)):=by rw[Z];exact(setRow_other w2 _ _ _ (by omega)).trans j1
  have m2:W7.heap[o+1+1]? =some (.cells (qi .u64 R) 274 (0,0)):=by rw[Z];exact setRow_heap _ _ _ _ _ _ j2
  have ar:Below o w W7:=by rw[Z];exact below_setRow az (by omega) _
  have aR:o+3≤W7.heap.size:=by rw[Z,setRow_size];omega
  have M0:=hid m0;have M1:=hid m1;have M2:=hid m2;have aP:=hid ar;clear Z m0 m1 m2 ar j0 j1 j2 az aH aL aC;go_wp2_with fail
  go_loopw [19] (fun i wr=> ∃j:Nat,i= .int .i64 (j:Nat)∧j≤8∧wr.heap[o]? =some (.cells (qi .u64 (Qw R (qL h) j)) 252 (0,0))∧But o W7 wr) (fun i _=>8 - (intOf i).toNat)
  case atStart=>exact⟨0,rfl,by omega,M0.out,But.refl _ _⟩
  case round=>
   obtain⟨j,rfl,hj,q,G⟩:=hrel;have U:=hid q;have HB:=hid G;have al:o+3≤wr.heap.size:=by have:=G.size;omega
   have am:(qL h).length=16:=ad.out.1;by_cases X:j<8
   case pos=>
    have c0:wr.cell? ⟨o+1+1,j,none⟩=some (.int .u64 (wd R j)):=by rw[qd ((G.block (o+1+1) (by omega) (by omega)).trans M2.out) j,Yd (by rw[D.out.1];omega)]
    have ah:(Qw R (qL h) j).length=16:=by rw[yP (by rw[D.out.1];omega) (by omega),am]
    have c1:wr.cell? ⟨o,j,none⟩=some (.int .u64 (wd (Qw R (qL h) j) j)):=by rw[qd q j,Yd (by omega)]
    have f1:=frozen_of_row wr o j _ _ q;have V:=heap_setCell_same wr o j _ _ (.int .u64 (wd R j)) q;rw[Qe,Y9 (by rw[D.out.1];omega) (by omega)]at V;have af:=yl D.out X;have ai:=hid V;have aK:(j:Int)<8:=by omega
    generalize wd (Qw R (qL h) j) j=zo at c1;generalize wd R j=zj at*;obtain⟨aG,aE⟩:=af;clear V ah q G am;go_wp2
    exact⟨⟨j+1,rfl,by omega,ai.out,HB.out.set _ _⟩,by simp[intOf];omega⟩
   obtain rfl:j=8:=by omega
   rw[JG D.out.1 J.out.1]at q;have n1:=(G.block (o+1) (by omega) (by omega)).trans M1.out;have aO:Below o w wr:=aP.out.trans (G.below Nl (by omega));have ab:=Qd (by decide) D.out;clear G am hj X U;go_wp2_with (first|((with_reducible show wpList _ _ _ (Oper.mk (some 57) _ _ _ _ _::_) _ _);refine wpList_load_row rfl 252 _ rfl o rfl _ _ _ _ q Tryz.underlying252 rfl (by rw[qf,ab.1];kernel_rfl) ?_)|((with_reducible show wpList _ _ _ (Oper.mk none (Op.store 252 _ _) _ _ _ _::_) _ _);refine wpList_store_row rfl 252 _ _ rfl (o+1) (qi .u64 (qL R)) rfl rfl 252 _ n1 (by rw[qf,ab.1];kernel_rfl) (by rw[qf,ab.1];rfl) qA ?_))
   exact Bp (results_cell_row rfl _ _ (o+1) 252 _ _ _ rfl (setRow_heap _ _ _ _ _ _ n1) Tryz.underlying252 rfl (by rw[qf,ab.1];kernel_rfl)) rfl ⟨rfl,by rw[I];exact below_setRow aO (by omega) _⟩
theorem qap (h bs:List Int)(hh:Words 32 8 h)(v:Value)(lo:Nat)(ap:(lo:Int)<9223372036854775808)(O node:Bool)(w:World)(hH:Holds8 w v bs)(hz: ∀z∈bs,0≤z∧z≤255)(hl:bs.length=64):
  Calls Tryz.prog 179 #[.int .i64 2,.agg (qi .u64 (qL h)),v,.int .u64 (lo:Nat),.int .u64 0,.bool O,.bool node] w fun e w'=>e= .returned (.agg (qi .u64 (qL (yq false h bs (lo:Nat) O node))))∧Below w.heap.size w w':=by
 obtain⟨o,I⟩:=Ex w.heap.size;have af:=ya 4 16 hz (by rw[hl]);obtain⟨M,hM⟩:=Ex (QU 4 16 bs);obtain⟨R,hR⟩:=Ex (yq false h bs (lo:Nat) O node);have ay:Words 32 8 R:=by rw[←hR];exact QQ false hh _ _ _ _
 have aq:zK mixSmall IVs 10 h M ((lo:Nat)%4294967296) ((lo:Nat)/4294967296) O node=R:=by rw[←hR,←hM];rfl
 rw[hR];rw[hM]at af;have aj:=Qd (by decide) hh;have au: ∀j,j<8→wd (qL h) j=wd h j:=fun j hj=>qaV hh.1 hj
 have aJ:=hid hM;have aE:=hid aq;have aN:=hid hl;have aB:=hid ap;have ad:=hid af;have D:=hid ay;have J:=hid hh;have ae:=hid aj;have aG:=hid au;have aK:=hid hz;have aC:=hid hH;clear hM hR aq hl ap af ay au aj hz hH hh;go_enter Tryz.func179,Tryz.ntmps179
 go_wp2_with fail
 have aT:(((w.alloc (.cells (qi .u64 (qL h)) 252)).alloc (.cells #[.int .u64 0,.int .u64 0,.int .u64 0,.int .u64 0,.int .u64 0,.int .u64 0,.int .u64 0,.int .u64 0,.int .u64 0,.int .u64 0,.int .u64 0,.int .u64 0,.int .u64 0,.int .u64 0,.int .u64 0,.int .u64 0] 252)).alloc (.cells (qi .u32 Z8) 284)).heap.size=o+3:=by simp[I]
 have r0:(((w.alloc (.cells (qi .u64 (qL h)) 252)).alloc (.cells #[.int .u64 0,.int .u64 0,.int .u64 0,.int .u64 0,.int .u64 0,.int .u64 0,.int .u64 0,.int .u64 0,.int .u64 0,.int .u64 0,.int .u64 0,.int .u64 0,.int .u64 0,.int .u64 0,.int .u64 0,.int .u64 0] 252)).alloc (.cells (qi .u32 Z8) 284)).heap[o]? =some (.cells (qi .u64 (qL h)) 252 (0,0)):=by
  rw[Bh _ _ _ (by simp[I];omega),Bh _ _ _ (by simp[I]),←I];exact Wn _ _
 have r1:(((w.alloc (.cells (qi .u64 (qL h)) 252)).alloc (.cells #[.int .u64 0,.int .u64 0,.int .u64 0,.int .u64 0,.int .u64 0,.int .u64 0,.int .u64 0,.int .u64 0,.int .u64 0,.int .u64 0,.int .u64 0,.int .u64 0,.int .u64 0,.int .u64 0,.int .u64 0,.int .u64 0] 252)).alloc (.cells (qi .u32 Z8) 284)).heap[o+1]? =some (.cells #[.int .u64 0,.int .u64 0,.int .u64 0,.int .u64 0,.int .u64 0,.int .u64 0,.int .u64 0,.int .u64 0,.int .u64 0,.int .u64 0,.int .u64 0,.int .u64 0,.int .u64 0,.int .u64 0,.int .u64 0,.int .u64 0] 252 (0,0)):=by
  rw[Bh _ _ _ (by simp[I]),show o+1=(w.alloc (.cells (qi .u64 (qL h)) 252)).heap.size by simp[I]];exact Wn _ _
 have r2:(((w.alloc (.cells (qi .u64 (qL h)) 252)).alloc (.cells #[.int .u64 0,.int .u64 0,.int .u64 0,.int .u64 0,.int .u64 0,.int .u64 0,.int .u64 0,.int .u64 0,.int .u64 0,.int .u64 0,.int .u64 0,.int .u64 0,.int .u64 0,.int .u64 0,.int .u64 0,.int .u64 0] 252)).alloc (.cells (qi .u32 Z8) 284)).heap[o+1+1]? =some (.cells (qi .u32 (Qw h Z8 0)) 284 (0,0)):=by
  rw[show o+1+1=((w.alloc (.cells (qi .u64 (qL h)) 252)).alloc (.cells #[.int .u64 0,.int .u64 0,.int .u64 0,.int .u64 0,.int .u64 0,.int .u64 0,.int .u64 0,.int .u64 0,.int .u64 0,.int .u64 0,.int .u64 0,.int .u64 0,.int .u64 0,.int .u64 0,.int .u64 0,.int .u64 0] 252)).heap.size by simp[I]];exact Wn _ _
 have ax:Below o w (((w.alloc (.cells (qi .u64 (qL h)) 252)).alloc (.cells #[.int .u64 0,.int .u64 0,.int .u64 0,.int .u64 0,.int .u64 0,.int .u64 0,.int .u64 0,.int .u64 0,.int .u64 0,.int .u64 0,.int .u64 0,.int .u64 0,.int .u64 0,.int .u64 0,.int .u64 0,.int .u64 0] 252)).alloc (.cells (qi .u32 Z8) 284)):=by rw[←I];exact((Br.alloc Nl _).alloc (by simp) _).alloc (by simp;omega) _
 change Code.wp _ _ _ _ (((w.alloc (.cells (qi .u64 (qL h)) 252)).alloc (.cells #[.int .u64 0,.int .u64 0,.int .u64 0,.int .u64 0,.int .u64 0,.int .u64 0,.int .u64 0,.int .u64 0,.int .u64 0,.int .u64 0,.int .u64 0,.int .u64 0,.int .u64 0,.int .u64 0,.int .u64 0,.int .u64 0] 252)).alloc (.cells (qi .u32 Z8) 284))
 generalize (((w.alloc (.cells (qi .u64 (qL h)) 252)).alloc (.cells #[.int .u64 0,.int .u64 0,.int .u64 0,.int .u64 0,.int .u64 0,.int .u64 0,.int .u64 0,.int .u64 0,.int .u64 0,.int .u64 0,.int .u64 0,.int .u64 0,.int .u64 0,.int .u64 0,.int .u64 0,.int .u64 0] 252)).alloc (.cells (qi .u32 Z8) 284))=W3 at*;have R0:=hid r0;have R1:=hid r1;have R2:=hid r2;have ak:=hid ax;clear r0 r1 r2 ax;go_loopw [21] (fun i wr=> ∃j:Nat,i= .int .i64 (j:Nat)∧j≤8∧wr.heap[o+1+1]? =some (.cells (qi .u32 (Qw h Z8 j)) 284 (0,0))∧But (o+1+1) W3 wr) (fun i _=>8 - (intOf i).toNat)
 case atStart=>exact⟨0,rfl,by omega,R2.out,But.refl _ _⟩
 case round=>
  obtain⟨j,rfl,hj,q,G⟩:=hrel;have U:=hid q;have HB:=hid G;have al:o+3≤wr.heap.size:=by have:=G.size;omega
  by_cases Y:j<8
  case pos=>
   have c0:wr.cell? ⟨o,j,none⟩=some (.int .u64 (wd h j)):=by
    rw[qd ((G.block o (by omega) (by omega)).trans R0.out) j,Yd (by rw[ae.out.1];omega),aG.out j Y]
   have ah:(Qw h Z8 j).length=8:=yP (by rw[J.out.1];omega) (by show j≤8;omega);have c1:wr.cell? ⟨o+1+1,j,none⟩=some (.int .u32 (wd (Qw h Z8 j) j)):=by rw[qd q j,Yd (by omega)]
   have f1:=frozen_of_row wr (o+1+1) j _ _ q;have X:=heap_setCell_same wr (o+1+1) j _ _ (.int .u32 (wd h j)) q;rw[Qe,Y9 (by rw[J.out.1];omega) (by show j<8;omega)]at X;have V:=yl J.out Y;have aR:IntKind.u32.wrap (wd h j)=wd h j:=by rw[IntKind.wrap_u32];exact Int.emod_eq_of_lt V.1 V.2
   have ai:=hid X;have aL:(j:Int)<8:=by omega
   generalize wd (Qw h Z8 j) j=zo at c1;generalize wd h j=zj at*;obtain⟨aH,aF⟩:=V;clear X ah q G;go_wp2
   exact⟨⟨j+1,rfl,by omega,ai.out,HB.out.set _ _⟩,by simp[intOf];omega⟩
  obtain rfl:j=8:=by omega
  rw[show Qw h Z8 8=h by unfold Qw;rw[List.take_of_length_le (by rw[J.out.1];omega)];simp[Z8]]at U;have aA:=aC.out.mono_below' (ak.out.trans (G.below (by omega) (by omega))) (by omega);have av:=hid aA;clear q G aA hj Y;go_wp2_with fail
  refine(qbV bs v _ av.out aK.out aN.out).mono ?_;rintro e w1 ⟨rfl,Z⟩;rw[aJ.out];have aO:=Z.size;have k0:=qg ((HB.out.block o (by omega) (by omega)).trans R0.out) Z;have k1:=qg ((HB.out.block (o+1) (by omega) (by omega)).trans R1.out) Z;have k2:=qg U.out Z;have aw:Below o w w1:=(ak.out.trans (HB.out.below (by omega) (by omega))).trans (Z.mono (by omega));have K0:=hid k0;have K1:=hid k1;have K2:=hid k2;have an:=hid aw;clear k0 k1 k2 aw Z HB U R0 R1 R2 ak av;go_upto_region 20 with((with_reducible show wpList _ _ _ (Oper.mk none (Op.store 298 _ _) _ _ _ _::_) _ _);refine wpList_store_row rfl 298 _ _ rfl w1.heap.size (qi .u32 M) rfl rfl 298 _ (Wn _ _) (by rw[qf,ad.out.1];kernel_rfl) (by rw[qf,ad.out.1];rfl) qA ?_)
  refine qm ?_;intro W hW;obtain⟨bv,ag⟩:=Ex w1.heap.size;have g0:W.heap[o]? =some (.cells (qi .u64 (qL h)) 252 (0,0)):=by rw[hW];exact(setRow_other (w1.alloc _) _ _ _ (by omega)).trans ((Bh _ _ _ (by omega)).trans K0.out)
  have g1:W.heap[o+1]? =some (.cells #[.int .u64 0,.int .u64 0,.int .u64 0,.int .u64 0,.int .u64 0,.int .u64 0,.int .u64 0,.int .u64 0,.int .u64 0,.int .u64 0,.int .u64 0,.int .u64 0,.int .u64 0,.int .u64 0,.int .u64 0,.int .u64 0] 252 (0,0)):=by rw[hW];exact(setRow_other (w1.alloc _) _ _ _ (by omega)).trans ((Bh _ _ _ (by omega)).trans K1.out)
  have g2:W.heap[o+1+1]? =some (.cells (qi .u32 h) 284 (0,0)):=by rw[hW];exact(setRow_other (w1.alloc _) _ _ _ (by omega)).trans ((Bh _ _ _ (by omega)).trans K2.out)
  have g3:W.heap[bv]? =some (.cells (qi .u32 M) 298 (0,0)):=by rw[hW,←ag];exact setRow_heap _ _ _ _ _ _ (Wn _ _)
  have ao:Below o w W:=by rw[hW];exact below_setRow (an.out.alloc (by omega) _) (by omega) _
  rw[ag];have aD:o+3≤bv:=by omega
  clear hW ag K0 K1 K2 an aO al;go_wp2_with (first|((with_reducible show wpList _ _ _ (Oper.mk (some 73) _ _ _ _ _::_) _ _);refine wpList_load_row rfl 284 _ rfl (o+1+1) rfl _ _ _ _ g2 Tryz.underlying284 rfl (by rw[qf,J.out.1];kernel_rfl) ?_)|((with_reducible show wpList _ _ _ (Oper.mk (some 74) _ _ _ _ _::_) _ _);refine wpList_load_row rfl 298 _ rfl bv rfl _ _ _ _ g3 Tryz.underlying298 rfl (by rw[qf,ad.out.1];kernel_rfl) ?_))
  refine(qiS h M J.out ad.out (lo:Nat) (by omega) (by have:=aB.out;omega) O node _).mono ?_;rintro e w2 ⟨rfl,ab⟩;rw[aE.out];have aI:=ab.size;have aM:=(Ai g3).1;have j0:=qg g0 ab;have j1:=qg g1 ab;have j2:=qg g2 ab;have az:Below o w w2:=ao.trans (ab.mono (by omega));clear g0 g1 g2 g3 ao ab;go_upto_region 21 with((with_reducible show wpList _ _ _ (Oper.mk none (Op.store 284 _ _) _ _ _ _::_) _ _);refine wpList_store_row rfl 284 _ _ rfl (o+1+1) (qi .u32 R) rfl rfl 284 _ j2 (by rw[qf,D.out.1];kernel_rfl) (by rw[qf,qf,D.out.1,J.out.1]) qA ?_)
  refine qm ?_;intro W7 aa;have m0:W7.heap[o]? =some (.cells (qi .u64 (Qw R (qL h) 0)) 252 (0,0)):=by rw[aa];exact(setRow_other w2 _ _ _ (by omega)).trans j0
  have m1:W7.heap[o+1]? =some (.cells #[.int .u64 0,.int .u64 0,.int .u64 0,.int .u64 0,.int .u64 0,.int .u64 0,.int .u64 0,.int .u64 0,.int .u64 0,.int .u64 0,.int .u64 0,.int .u64 0,.int .u64 0,.int .u64 0,.int .u64 0,.int .u64 0] 252 (0,0)):=by rw[aa];exact(setRow_other w2 _ _ _ (by omega)).trans j1
  have m2:W7.heap[o+1+1]? =some (.cells (qi .u32 R) 284 (0,0)):=by rw[aa];exact setRow_heap _ _ _ _ _ _ j2
  have ar:Below o w W7:=by rw[aa];exact below_setRow az (by omega) _
  have aS:o+3≤W7.heap.size:=by rw[aa,setRow_size];omega
  have M0:=hid m0;have M1:=hid m1;have M2:=hid m2;have aQ:=hid ar;clear aa m0 m1 m2 ar j0 j1 j2 az aI aM aD;go_wp2_with fail
  go_loopw [24] (fun i wr=> ∃j:Nat,i= .int .i64 (j:Nat)∧j≤8∧wr.heap[o]? =some (.cells (qi .u64 (Qw R (qL h) j)) 252 (0,0))∧But o W7 wr) (fun i _=>8 - (intOf i).toNat)
  case atStart=>exact⟨0,rfl,by omega,M0.out,But.refl _ _⟩
  case round=>
   obtain⟨j,rfl,hj,q,G⟩:=hrel;have U:=hid q;have HB:=hid G;have al:o+3≤wr.heap.size:=by have:=G.size;omega
   have am:(qL h).length=16:=ae.out.1;by_cases Y:j<8
   case pos=>
    have c0:wr.cell? ⟨o+1+1,j,none⟩=some (.int .u32 (wd R j)):=by rw[qd ((G.block (o+1+1) (by omega) (by omega)).trans M2.out) j,Yd (by rw[D.out.1];omega)]
    have ah:(Qw R (qL h) j).length=16:=by rw[yP (by rw[D.out.1];omega) (by omega),am]
    have c1:wr.cell? ⟨o,j,none⟩=some (.int .u64 (wd (Qw R (qL h) j) j)):=by rw[qd q j,Yd (by omega)]
    have f1:=frozen_of_row wr o j _ _ q;have X:=heap_setCell_same wr o j _ _ (.int .u64 (wd R j)) q;rw[Qe,Y9 (by rw[D.out.1];omega) (by omega)]at X;have V:=yl D.out Y;have aR:IntKind.u64.wrap (wd R j)=wd R j:=u64_wrap_id _ V.1 (by have:=V.2;simp at this;omega);have ai:=hid X;have aL:(j:Int)<8:=by omega
    generalize wd (Qw R (qL h) j) j=zo at c1;generalize wd R j=zj at*;obtain⟨aH,aF⟩:=V;clear X ah q G am;go_wp2
    exact⟨⟨j+1,rfl,by omega,ai.out,HB.out.set _ _⟩,by simp[intOf];omega⟩
   obtain rfl:j=8:=by omega
   rw[JG D.out.1 J.out.1]at q;have n1:=(G.block (o+1) (by omega) (by omega)).trans M1.out;have aP:Below o w wr:=aQ.out.trans (G.below Nl (by omega));have ac:=Qd (by decide) D.out;clear G am hj Y U;go_wp2_with (first|((with_reducible show wpList _ _ _ (Oper.mk (some 89) _ _ _ _ _::_) _ _);refine wpList_load_row rfl 252 _ rfl o rfl _ _ _ _ q Tryz.underlying252 rfl (by rw[qf,ac.1];kernel_rfl) ?_)|((with_reducible show wpList _ _ _ (Oper.mk none (Op.store 252 _ _) _ _ _ _::_) _ _);refine wpList_store_row rfl 252 _ _ rfl (o+1) (qi .u64 (qL R)) rfl rfl 252 _ n1 (by rw[qf,ac.1];kernel_rfl) (by rw[qf,ac.1];rfl) qA ?_))
   exact Bp (results_cell_row rfl _ _ (o+1) 252 _ _ _ rfl (setRow_heap _ _ _ _ _ _ n1) Tryz.underlying252 rfl (by rw[qf,ac.1];kernel_rfl)) rfl ⟨rfl,by rw[I];exact below_setRow aP (by omega) _⟩
end Go.Proofs.YthjoojnlnlmljaaGreat
