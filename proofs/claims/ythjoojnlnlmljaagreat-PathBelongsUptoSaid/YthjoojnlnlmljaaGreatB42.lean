/- The digest of a message, by both sides; a tree with bytes of its own. No condition. -/
import Derived.Test.YthjoojnlnlmljaaGreatP01
import Derived.Test.YthjoojnlnlmljaaGreatB40
import Derived.Test.YthjoojnlnlmljaaGreatB34
import Derived.Test.YthjoojnlnlmljaaGreatB41
import Derived.Test.YthjoojnlnlmljaaGreatB33
import Derived.Test.YthjoojnlnlmljaaGreatB37
import Derived.ArgAppend
set_option linter.all false
set_option maxRecDepth 100000
set_option maxHeartbeats 8000000
namespace Go.Proofs.YthjoojnlnlmljaaGreat
open Go.ChangeShapes Go.WideShapes Go.ChangeAt Go.RowKit Go.Joins Go.Shelf Go.Maps
open Go.Lib (hid)
attribute [local go_sem] Oper.semAt_some
def TreeV.digZ (t:TreeV)(kz z1 z2 zs:List Int):List Int:=if t.validE=0 then qC (t.lvlZ kz z1 z2 (t.leafZ kz z1 z2 zs) ((t.rowsOf zs.length).length - 1)) 0 else []
theorem yH {t:TreeV}{total:Nat}(h:t.validE=0)(r:total≤4194304):t.err total=0:=by
 unfold TreeV.err;rw[if_neg (by simp[h]),if_neg ?_];rintro⟨-,q⟩
 have o:1≤t.ln∨t.ln=0:=by omega
 rcases o with o|o
 ·have:=Yq (n:=total) o;omega
 ·rw[o]at q;unfold qP at q;split at q<;>simp at q
theorem Yg {t:TreeV}(h:t.validE=0)(q:0≤t.l∧t.l≤4294967295)(kz z1 z2 zs:List Int):(t.leafZ kz z1 z2 zs).length=lvs zs.length t.ln:=by
 have o:1≤t.ln:=by
  have:=(qn h).2.2.2.2.2.2.2.2.1
  unfold TreeV.ln;omega
 rw[←zv zs o];exact TreeV.rowZ_length ..
def qjW (t:TreeV)(kz z1 z2 zs:List Int)(w:World)(e:Ending)(w':World):Prop:=
 ∃u,e= .returned (.tuple #[u,.int .i64 t.validE])∧OwnB w.heap.size w' u (t.digZ kz z1 z2 zs)∧Below w.heap.size w w'
theorem qaN (t:TreeV)(w:World):Calls Tryz.prog 11 #[t.val] w fun e w'=>e= .returned (.int .i64 t.validE)∧Below w.heap.size w w':=by
 obtain⟨I,q⟩:=Ex w.heap.size;have G:=hid (fun W:World=>yK t W);have r:Below I w (w.alloc (.cells t.c 26)):=by rw[←q];exact Br.alloc Nl _
 have o:=Wn w (.cells t.c 26);rw[q]at o;generalize t.validE=S at*;unfold TreeV.val at*;go_enter Tryz.func11,Tryz.ntmps11
 go_upto_region 1 with(fail)
 generalize w.alloc (.cells t.c 26)=O at*;go_wp2_with (refine L26 I rfl o ?_)
 refine(G.out O).mono ?_;rintro e U ⟨rfl,D⟩;have J:=hid (r.trans (D.mono (by have:=(Ai o).1;omega)));clear o r D;go_wp2
 go_ret
 exact⟨rfl,by rw[q];exact J.out⟩
theorem qgf (t:TreeV)(v:Value)(w:World)(h:t.validE≠0):
  Calls Tryz.prog 17 #[t.val,v] w fun e w'=>e= .returned (.tuple #[.slice none 0 0,.int .i64 t.validE])∧Below w.heap.size w w':=by
 obtain⟨G,q⟩:=Ex w.heap.size;have I:=hid (fun W:World=>qaN t W);have r:Below G w (w.alloc (.cells t.c 26)):=by rw[←q];exact Br.alloc Nl _
 have o:=Wn w (.cells t.c 26);rw[q]at o;generalize t.validE=O at*;have U:(O != 0)=true:=by rw[bne_iff_ne];exact h
 clear h;unfold TreeV.val at*;go_enter Tryz.func17,Tryz.ntmps17
 go_upto_region 1 with(fail)
 generalize w.alloc (.cells t.c 26)=S at*;go_wp2_with (refine L26 G rfl o ?_)
 refine(I.out S).mono ?_;rintro e V ⟨rfl,D⟩;have J:=hid (r.trans (D.mono (by have:=(Ai o).1;omega)));clear o r D;go_wp2
 go_ret2
 exact⟨rfl,by rw[q];exact J.out⟩
theorem qhA (t:TreeV)(kz z1 z2 zs:List Int)(v:Value)(w:World)(h:TreeOk t kz z1 z2 w)(hv:Hold w v zs)(hn:zs.length≤4194304):
  Calls Tryz.prog 17 #[t.val,v] w fun e w'=> ∃u,e= .returned (.tuple #[u,.int .i64 0])∧OwnB w.heap.size w' u (qC (t.lvlZ kz z1 z2 (t.leafZ kz z1 z2 zs) ((t.rowsOf zs.length).length - 1)) 0)∧Below w.heap.size w w':=by
 obtain⟨D,o⟩:=Ex w.heap.size;have I:=fun W:World=>qaN t W
 simp only[h.v]at I;have ag:=hid I;have he:=yH h.v hn;have S:=Qc h.v h.l kz z1 z2 zs;have ad:=Yg h.v h.l kz z1 z2 zs;have aa:=hid (fun(W:World) (hb:Below w.heap.size w W)=>qeR t kz z1 z2 zs v w W h he hv hb hn);have Z:=hid (fun(W:World) (x:Value) (hx:ListH W x (t.leafZ kz z1 z2 zs)) (hb:Below w.heap.size w W)=>qgB t kz z1 z2 zs.length (t.leafZ kz z1 z2 zs) x w W h he hx hb ad S.2.2 (by have:=S.2.1;omega) (by omega));have af:=hid (show t.rowZ kz z1 z2 0 false (QC t.ln zs) (QC t.ln zs).length=t.leafZ kz z1 z2 zs from rfl);generalize t.rowZ kz z1 z2 0 false (QC t.ln zs) (QC t.ln zs).length=RZ at*;generalize t.rowC kz z1 z2 0 false (QC t.ln zs) (QC t.ln zs).length=RC at*;generalize t.lvlsC kz z1 z2 (t.leafZ kz z1 z2 zs) ((t.rowsOf zs.length).length - 1)=LC at*;generalize qC (t.lvlZ kz z1 z2 (t.leafZ kz z1 z2 zs) ((t.rowsOf zs.length).length - 1)) 0=Y at*;obtain⟨va,vc,rfl,ah,ai⟩:=hv.slice;have al:IntKind.u64.wrap (zs.length:Int)=(zs.length:Int):=u64_wrap_id _ (by omega) (by omega);have U:Below D w (w.alloc (.cells t.c 26)):=by rw[←o];exact Br.alloc Nl _
 have q:=Wn w (.cells t.c 26);rw[o]at q;rw[o]at aa Z;clear h hv I he S ad;unfold TreeV.val at*;go_enter Tryz.func17,Tryz.ntmps17
 go_upto_region 1 with(fail)
 generalize w.alloc (.cells t.c 26)=wA at*;go_wp2_with (refine L26 D rfl q ?_)
 refine(ag.out wA).mono ?_;rintro e w2 ⟨rfl,O⟩;have r:=qf q O;have ac:=U.trans (O.mono (by have:=(Ai q).1;omega));have ab:=hid ac;clear q U O ac;go_wp2_with (refine L26 D rfl r ?_)
 refine(aa.out w2 ab.out).mono ?_;rintro e w3 ⟨cv,u,rfl, -,hu,J⟩;have G:=qf r J;have am:=(Ai r).1;have X:=hid (ab.out.trans (J.mono (by omega)));have HU:=hid hu.hold;clear J r hu;go_wp2_with (refine L26 D rfl G ?_)
 refine(Z.out w3 _ (by rw[←af.out];exact HU.out) X.out).mono ?_;rintro e w4 ⟨ak,y,rfl, -,hy,V⟩;have aj:=(Ai G).1;have ae:=hid (X.out.trans (V.mono (by omega)));have HY:=hid (hy.le (show D≤w3.heap.size by omega));clear V hy G;go_wp2
 go_ret2
 exact⟨_,rfl,by rw[o];exact HY.out,by rw[o];exact ae.out⟩
theorem qgg (t:TreeV)(kz z1 z2 zs:List Int)(v:Value)(w:World)(q:0≤t.l∧t.l≤4294967295)(D:Hold w (.slice t.ka t.kl t.kc) kz)(I:Hold w (.slice t.sa t.sl t.sc) z1)(O:Hold w (.slice t.pa t.pl t.pc) z2)(J:Hold w v zs)(G:zs.length≤4194304):
  Calls Tryz.prog 17 #[t.val,v] w fun e w'=>qjW t kz z1 z2 zs w e w':=by
 by_cases h:t.validE=0
 ·refine(qhA t kz z1 z2 zs v w ⟨h,q,D,I,O⟩ J G).mono ?_;rintro e w' ⟨u,rfl,r,o⟩
  exact⟨u,by rw[h],by unfold TreeV.digZ;rw[if_pos h];exact r,o⟩
 ·refine(qgf t v w h).mono ?_;rintro e w' ⟨rfl,o⟩
  exact⟨_,rfl,by unfold TreeV.digZ;rw[if_neg h];exact⟨fun _ h=>by simp at h,.inl ⟨rfl,rfl⟩⟩,o⟩
theorem qdt {W:World}{B T s n:Nat}{v:Value}{xs:List Value}(h:W.ownsRow B T s v n xs)(S:0<n): ∃g o,v= .slice (some ⟨g,0,none⟩) n o∧B≤g∧g<W.heap.size∧ ∀j u,xs[j]? =some u→W.cell? ⟨g,j,none⟩=some u:=by
 rcases h.2 with⟨-,rfl⟩|⟨g,o,I,rfl,D,r,O,U,J,G⟩
 ·omega
 ·refine⟨g,o,rfl,D,(Ai r).1,fun j u q=>(qd r j).trans ?_⟩;rw[←G,List.getElem?_take]at q;split at q
  ·rw[←Array.getElem?_toList];exact q
  ·cases q
theorem qeb {P:Program}{ops:Array Oper}{G:List Oper}{o:Oper}{a:Act}{Q:Exit→Act→World→Prop}{W:World}(ad:o.guard=none)(s x:Operand)(t:TypeId)
 (ho:o.op= .call { callee:= .builtin .append,args:= #[s,x],argTypes:= #[t,t] }) (B:Nat) (e:TypeId) (he:e≠5) (i:TypeInfo) (z:Value) (size bytes:Nat) (ht:P.underlying t=some (.slice e)) (hi:P.info? e=some i) (hz:i.zero=some z)
 (U:i.size=size) (ab:i.bytes=bytes) (Y:z.cells.size=size) (aa:0<size) (v:Value) (n:Nat) (xs:List Value) (hs:a.eval s=v) (r:W.ownsRow B e size v n xs)
 (B2:Nat) (y:Value) (m:Nat) (S:List Value) (hx:a.eval x=y) (hy:W.ownsRow B2 e size y m S) (hm:0<m) (h1: ∀u∈S,u.oneCell'=true) (Z:n+m≤maxLen) (J:(n+m)*bytes≤140737488355328) (hB:B≤W.heap.size)
 (h: ∀v' w',w'.ownsRow B e size v' (n+m) (xs++S)→KB B W w'→Spare (fun k=>v.ownBlock≠some k) W w'→(v'.ownBlock=v.ownBlock∨v'.ownBlock=some W.heap.size)→wpList P ops Q G (a.put o.dst v') w'):wpList P ops Q (o::G) a W:=by
 obtain⟨g,O,rfl,af,ae,ac⟩:=qdt hy hm;refine wpList_append_own_at _ ad s x t ho B e i z size bytes ht hi hz U ab Y aa v n xs hs r ⟨g,0,none⟩ m O S hx hy.1 (fun j u hj=>?_) h1 Z J hB fun v' w' h2 h3 _ V=>?_
 ·rw[Go.WideShapes.add_plain,Nat.zero_add];exact ac j u hj
 have q:Spare (fun k=>v.ownBlock≠some k) W w':=Spare.of_grown h3;refine h v' w' h2 ⟨q.os,q.tape,q.output,q.size,fun k hk=>q.block k (by omega) (fun D=>?_),fun k c I=>?_⟩ q V
 ·rcases r.2 with⟨rfl, -⟩|⟨g,O,X,rfl,h4, -⟩
  ·cases D
  ·simp only[Value.ownBlock,Option.some.injEq]at D;omega
 ·rw[q.block k (Ai I).1 (fun D=>?_)]
  ·exact I
  ·rcases r.2 with⟨rfl, -⟩|⟨g,O,X,rfl, -,V, -⟩
   ·cases D
   ·simp only[Value.ownBlock,Option.some.injEq]at D;subst D;rw[V]at I;simp only[Option.some.injEq,Obj.cells.injEq]at I;exact he I.2.1
def TreeV.outC (t:TreeV)(s:CallS):List Int:=Jm t.big s.bs s.kz s.la s.o s.ds
theorem qbi (t:TreeV)(kz z1 z2:List Int)(row i:Nat)(la rt:Bool)(d:List Int):t.outC (t.callS kz z1 z2 row i la rt d)=t.node kz z1 z2 row i la rt d:=rfl
def RowsV (B:Nat)(w:World)(lv:Value)(vs:List Value)(LL:List (List (List Int))):Prop:=
 w.ownsRow B 67 1 lv LL.length vs∧(∀i,i<LL.length→ListO B w (vs.getD i undef) (LL.getD i []))∧ ∀i j g,i<j→j<LL.length→(vs.getD i undef).ownBlock=some g→(vs.getD j undef).ownBlock≠some g
theorem RowsV.len {B:Nat}{w:World}{o:Value}{vs:List Value}{LL:List (List (List Int))}(h:RowsV B w o vs LL):vs.length=LL.length:=by have:=h.1.1;simpa using this
theorem RowsV.tend {B:Nat}{w w':World}{o:Value}{vs:List Value}{LL:List (List (List Int))}(h:RowsV B w o vs LL)(G: ∀(k:Nat) (c:Array Value),w.heap[k]? =some (.cells c 5 (0,0))→w'.heap[k]? =some (.cells c 5 (0,0)))
  (q: ∀g,o.ownBlock=some g→w'.heap[g]? =w.heap[g]?) (D: ∀i g,i<LL.length→(vs.getD i undef).ownBlock=some g→w'.heap[g]? =w.heap[g]?):RowsV B w' o vs LL:=
 ⟨Q6 h.1 q,fun i hi=>(h.2.1 i hi).tend G (fun g r=>D i g hi r),h.2.2⟩
theorem Yo {w:World}{B T n s:Nat}{v:Value}{xs:List Value}(q:w.ownsRow B T s v n xs): ∀g,v.ownBlock=some g→B≤g:=by
 intro g o;rcases q.2 with⟨rfl, -⟩|⟨I,D,r,rfl,G, -, -⟩
 ·cases o
 ·simp only[Value.ownBlock,Option.some.injEq]at o;omega
theorem YR {w:World}{B T n s:Nat}{v:Value}{xs:List Value}(q:w.ownsRow B T s v n xs): ∀g,v.ownBlock=some g→ ∃c,w.heap[g]? =some (.cells c T (0,0)):=by
 intro g o;rcases q.2 with⟨rfl, -⟩|⟨I,G,D,rfl, -,r, -⟩
 ·cases o
 ·simp only[Value.ownBlock,Option.some.injEq]at o;subst o;exact⟨_,r⟩
theorem ListO.row {B:Nat}{w:World}{v:Value}{L:List (List Int)}(h:ListO B w v L): ∃vs,w.ownsRow B 24 1 v L.length vs:=by
 obtain⟨vs,o, -⟩:=h;exact⟨vs,o⟩
theorem zu {α:Type}(L:List α)(k i:Nat)(x d:α)(o:k<L.length):(L.set k x).getD i d=if k=i then x else L.getD i d:=by
 simp only[Lg,List.getElem?_set];by_cases h:k=i
 ·subst h;simp[o]
 ·simp[h]
theorem RowsV.snoc {B:Nat}{w w':World}{O q:Value}{vs:List Value}{LL:List (List (List Int))}(h:RowsV B w O vs LL)(S:w'.ownsRow B 67 1 q (LL.length+1) (vs++[.slice none 0 0]))(U:KB B w w')(I:Spare (fun k=>O.ownBlock≠some k) w w'):RowsV B w' q (vs++[.slice none 0 0]) (LL++[[]]):=by
 have D:=h.len;refine⟨by simpa using S,fun i hi=>?_,fun i j g J V r=>?_⟩
 ·simp only[List.length_append,List.length_singleton]at hi;rw[qX,qX,D];by_cases o:i<LL.length
  ·rw[if_pos o,if_pos o];obtain⟨xs,G⟩:=(h.2.1 i o).row;exact(h.2.1 i o).kb U (Ym h.1 G (by decide) I)
  ·rw[if_neg o,if_neg o,if_pos (by omega),if_pos (by omega)];exact ListO.nil _ _
 ·simp only[List.length_append,List.length_singleton]at V;rw[qX,D]at r⊢;by_cases o:j<LL.length
  ·rw[if_pos (by omega)]at r;rw[if_pos o];exact h.2.2 i j g J o r
  ·rw[if_neg o,if_pos (by omega)];intro e;cases e
theorem Tend.of_below (F:Nat→Prop){w w':World}(o:Below w.heap.size w w'):Tend F w w':=⟨Spare.of_below _ o,(KB.of_below o (Nat.zero_le _)).bytes⟩
theorem qiH {W w':World}{B T s n:Nat}{v:Value}{xs:List Value}(r:W.ownsRow B T s v n xs)(I:T≠5)(h:W.grownBy w' v.ownBlock)(J:B≤W.heap.size):KB B W w'∧Spare (fun k=>v.ownBlock≠some k) W w':=by
 have o:Spare (fun k=>v.ownBlock≠some k) W w':=Spare.of_grown h;refine⟨⟨o.os,o.tape,o.output,o.size,fun k O=>o.block k (by omega) (fun D=>by have:=Yo r k D;omega),fun k c q=>?_⟩,o⟩;rw[o.block k (Ai q).1 (fun D=>?_)]
 ·exact q
 ·obtain⟨c2,G⟩:=YR r k D;rw[G]at q;simp only[Option.some.injEq,Obj.cells.injEq]at q;exact I q.2.1
theorem JQ {w:World}{g:Nat}{c c2:Array Value}{T r:TypeId}{fr q:Nat×Nat}(h:w.heap[g]? =some (.cells c T fr))(D:T≠r): ∀k,w.heap[k]? =some (.cells c2 r q)→k≠g:=by
 rintro k o rfl
 rw[h]at o;simp only[Option.some.injEq,Obj.cells.injEq]at o;exact D o.2.1
theorem Yn {w:World}{B T n s g:Nat}{v:Value}{xs:List Value}{c:Array Value}{o:TypeId}{fr:Nat×Nat}(q:w.ownsRow B T s v n xs)(h:w.heap[g]? =some (.cells c o fr))(D:o≠T): ∀k,v.ownBlock=some k→k≠g:=fun k G=>by
 obtain⟨c2,r⟩:=YR q k G;exact JQ h D k r
theorem ListO.off {B g:Nat}{w X:World}{v:Value}{L:List (List Int)}{c:Array Value}{T:TypeId}{fr:Nat×Nat}(h:ListO B w v L)(r:w.heap[g]? =some (.cells c T fr))(G:T≠24)(I:T≠5)(q: ∀k,k≠g→X.heap[k]? =w.heap[k]?):ListO B X v L:=by
 obtain⟨xs,D⟩:=h.row;exact h.tend (fun k c o=>by rw[q k (JQ r I k o)];exact o) (fun k o=>q k (Yn D r G k o))
theorem RowsV.off {B g:Nat}{w X:World}{r:Value}{vs:List Value}{LL:List (List (List Int))}{c:Array Value}{T:TypeId}{fr:Nat×Nat}(h:RowsV B w r vs LL)(q:w.heap[g]? =some (.cells c T fr))(J:T≠67)(D:T≠24)(G:T≠5)(o: ∀k,k≠g→X.heap[k]? =w.heap[k]?):RowsV B X r vs LL:=
 ⟨Q6 h.1 (fun k I=>o k (Yn h.1 q J k I)),fun i hi=>(h.2.1 i hi).off q D G o,h.2.2⟩
theorem RowsV.put {B q n J:Nat}{w w1:World}{vs:List Value}{o:List (List (List Int))}{CO:List (List Int)}{Z:List Int}{x:Value}(h:RowsV B w (.slice (some ⟨q,0,none⟩) n J) vs (o++[CO]))(h1:ListO B w1 x (CO++[Z]))(r:KB B w w1)(V:Spare (fun k=>(vs.getD o.length undef).ownBlock≠some k) w w1)
  (ab:x.ownBlock=(vs.getD o.length undef).ownBlock∨ ∀g,x.ownBlock=some g→w.heap.size≤g):RowsV B (w1.setCell ⟨q,o.length,none⟩ x) (.slice (some ⟨q,0,none⟩) n J) (vs.set o.length x) (o++[CO++[Z]]):=by
 have hl:=h.len;simp only[List.length_append,List.length_singleton]at hl;obtain⟨ho,hx,hd⟩:=h;have O:=hx o.length (by simp);obtain⟨xs,aa⟩:=O.row;rcases ho.2 with⟨e, -⟩|⟨g,ac,S,e,p1,p2,p3,p4,p5,p6⟩
 ·cases e
 simp only[Value.slice.injEq,Option.some.injEq,Addr.mk.injEq,and_true]at e;obtain⟨rfl,rfl,rfl⟩:=e;have q2:w1.heap[q]? =some (.cells S 67 (0,0)):=(V.block q (Ai p2).1 (fun e=>Yn aa p2 (by decide) q e rfl)).trans p2;have hX: ∀k,k≠q→(w1.setCell ⟨q,o.length,none⟩ x).heap[k]? =w1.heap[k]? :=fun k r=>heap_setCell_other _ _ _ _ r
 refine⟨⟨by simp[hl],.inr ⟨q,J,_,by simp,p1,heap_setCell_same _ q o.length S _ x q2,by simpa using p3,p4,by simpa using p5,?_⟩⟩,fun i hi=>?_,fun i j g Y hj D=>?_⟩
 ·rw[←p6,Array.toList_setIfInBounds,List.take_set];simp
 ·rw[zu _ _ _ _ _ (by omega)];simp only[List.length_append,List.length_singleton]at hi;by_cases U:o.length=i
  ·subst U;rw[if_pos rfl,qX,if_neg (by omega),if_pos rfl];exact h1.off q2 (by decide) (by decide) hX
  ·rw[if_neg U,qX,if_pos (by omega)];have I:=hx i (by simp;omega);rw[qX,if_pos (by omega)]at I;obtain⟨ys,G⟩:=I.row;exact(I.kb r (fun k r=>V.block k (qT G k r) (fun e=>hd i o.length k (by omega) (by simp) r e))).off q2 (by decide) (by decide) hX
 ·rw[zu _ _ _ _ _ (by omega)]at D⊢;simp only[List.length_append,List.length_singleton]at hj;rw[if_neg (by omega)]at D;by_cases X:o.length=j
  ·subst X;rw[if_pos rfl];have I:=hx i (by simp;omega);obtain⟨ys,G⟩:=I.row;have h5:=qT G g D;rcases ab with h4|h4
   ·rw[h4];exact hd i o.length g Y (by simp) D
   ·intro e;have:=h4 g e;omega
  ·rw[if_neg X];exact hd i j g Y (by simp;omega) D
def TreeV.accL (t:TreeV)(done:List (List CallS))(cur:List CallS):List (List (List Int)):=done.map (·.map t.outC)++(if cur.isEmpty then [] else [cur.map t.outC])
def qjP (t:TreeV)(w0:World)(bl:Nat)(done:List (List CallS))(cur:List CallS)(F:Nat→Prop)(w:World):Prop:=
 ∃lv vs,w.heap[bl]? =some (.cells #[lv] 70 (0,0))∧w0.heap.size≤bl∧RowsV w0.heap.size w lv vs (t.accL done cur)∧ ∀k,F k↔k=bl∨lv.ownBlock=some k∨ ∃i,i<(t.accL done cur).length∧(vs.getD i undef).ownBlock=some k
theorem qgY {t:TreeV}{w0 w:World}{O:Nat}{q:List (List CallS)}{G:List CallS}{F:Nat→Prop}(h:qjP t w0 O q G F w): ∀k,F k→w0.heap.size≤k∧k<w.heap.size:=by
 obtain⟨U,vs,I,S,r,J⟩:=h;intro k o;rcases(J k).1 o with rfl|o|⟨i,hi,o⟩
 ·exact⟨S,(Ai I).1⟩
 ·exact⟨Yo r.1 k o,qT r.1 k o⟩
 ·obtain⟨xs,D⟩:=(r.2.1 i hi).row;exact⟨Yo D k o,qT D k o⟩
theorem qi1 (t:TreeV)(o:List (List CallS))(q:List CallS)(s:CallS):t.accL o (q++[s])=o.map (·.map t.outC)++[q.map t.outC++[t.outC s]]:=by
 unfold TreeV.accL;rw[if_neg (by simp)];simp
theorem qcf (t:TreeV)(o:List (List CallS)):t.accL o []=o.map (·.map t.outC):=by simp[TreeV.accL]
theorem J6 (t:TreeV)(o:List (List CallS)){q:List CallS}(h:q≠[]):t.accL o q=o.map (·.map t.outC)++[q.map t.outC]:=by
 unfold TreeV.accL;rw[if_neg (by simpa using h)]
theorem qhR (t:TreeV)(o:List (List CallS)){q:List CallS}(r:q≠[]):t.accL (o++[q]) []=t.accL o q:=by
 rw[qcf,J6 t o r,List.map_append];rfl
theorem qb0:(Tryz.prog.info? 67).map (fun i=>(i.zero,i.size,i.bytes))=some (some (.slice none 0 0),1,24):=by kernel_rfl
theorem qcp {ops:Array Oper}{r:List Oper}{o:Oper}{D:Act}{w:World}{Q:Exit→Act→World→Prop}(U:o.guard=none)(x:Operand)(O:o.op= .buildSlice 70 1 #[(0,x)])(a:Option Addr)(n k:Nat)(J:D.eval x= .slice a n k)
  (h:wpList Tryz.prog ops Q r (D.put o.dst (.slice (some ⟨w.heap.size,0,none⟩) 1 1)) (w.alloc (.cells #[.slice a n k] 67))):wpList Tryz.prog ops Q (o::r) D w:=by
 obtain⟨S,I,G,q, -⟩:=info_parts qb0;exact wpList_buildSlice U 70 67 1 _ O #[.slice a n k] S _ Tryz.underlying70 I G (by rw[q];decide) (by rw[q];decide) (by rw[q,show Array.range (1*1)= #[0] by decide];simp[J,Instr.fill,Value.cells]) h
theorem qgi (args:Array Value)(W:World):(callFunc 109 args).run Tryz.prog W= .ok (.enter 109 args) W:=by
 simp[callFunc,Tryz.func109,Tryz.f109]
theorem qcN {t:TreeV}{kz z1 z2:List Int}{w0:World}(hT:TreeOk t kz z1 z2 w0)(r:Nat):Seer t kz z1 z2 w0 109 r (qjP t w0 r):=by
 refine⟨fun h=>qgY h,fun h hb hF hB=>?_,fun hc h=>?_,fun h bq hr hi cl cy hw bj be bp hd=>?_⟩
 ·obtain⟨lv,vs,h1,h2,h3,h4⟩:=h;exact⟨lv,vs,by rw[hF r ((h4 r).2 (.inl rfl))];exact h1,h2,h3.tend hB (fun g V=>hF g ((h4 g).2 (.inr (.inl V)))) (fun i g hi V=>hF g ((h4 g).2 (.inr (.inr ⟨i,hi,V⟩)))),h4⟩
 ·obtain⟨lv,vs,h1,h2,h3,h4⟩:=h;rw[←qhR t _ hc]at h3 h4;exact⟨lv,vs,h1,h2,h3,h4⟩
 ·rename_i O J F w row i la rt d bv kv dv;have bK:=qgY h;obtain⟨lv,vs,h1,h2,h3,h4⟩:=h;obtain⟨b0,Z⟩:=Ex w.heap.size;have cI:r<w.heap.size:=(Ai h1).1;have b8:w0.heap.size≤b0:=by have:=hw.size;omega
  obtain⟨a1,n1,c1,rfl⟩:=qs bj;obtain⟨a2,n2,c2,rfl⟩:=qs be;obtain⟨a3,c3,rfl, -, -⟩:=bp.hold.slice;obtain⟨ag,aa,aj,rfl⟩:=qs h3.1;have bx:aa=(t.accL O J).length:=by
   rcases h3.1.2 with⟨e,e2⟩|⟨g,cj,J,e, -⟩
   ·simp only[Value.slice.injEq]at e;omega
   ·simp only[Value.slice.injEq]at e;omega
  have bf:Below b0 w (w.alloc (.cells #[.int .i64 t.k,.slice a1 n1 c1,.slice a2 n2 c2,.bool la,.int .i64 (t.outN rt),.slice a3 d.length c3] 73)):=by rw[←Z];exact Br.alloc Nl _
  have aJ:=Wn w (.cells #[.int .i64 t.k,.slice a1 n1 c1,.slice a2 n2 c2,.bool la,.int .i64 (t.outN rt),.slice a3 d.length c3] 73);rw[Z]at aJ;have b4:=Z▸bf;obtain⟨ND,bs⟩:=Ex (t.node kz z1 z2 row i la rt d);have aY:=fun(W:World) (hb:Below b0 w W)=>qjy hT (row:=row) (at_:=i) hr (by omega) la rt d (.slice a3 d.length c3) (.slice a1 n1 c1) (.slice a2 n2 c2) W _ (qi bj (fun g _ g2=>hb.block g (by omega))) (qi be (fun g _ g2=>hb.block g (by omega))) (bp.hold.below (Z▸hb)) hd
  rw[bs]at aY⊢;have bG:=hid aY;have bb:=hid (qi1 t O J (t.callS kz z1 z2 row i la rt d));rw[qbi,bs]at bb;have H3:=hid h3;have H4:=hid h4;have cL:=hid bK;have aZ:=hid bf;have bC:=hid h1;have a4:=hid (show(O.map (·.map t.outC)).length=row by rw[List.length_map];exact bq);have cz:=hid (show(J.map t.outC).length≤8388608 by rw[List.length_map];exact cy);have bS:=hid bx;clear h1 h3 h4 bK bj be bp cl bf b4 hd hw hT aY bs bq bx;unfold yX;go_enter Tryz.func109,Tryz.ntmps109
  go_upto_region 1 with(fail)
  generalize w.alloc (.cells #[.int .i64 t.k,.slice a1 n1 c1,.slice a2 n2 c2,.bool la,.int .i64 (t.outN rt),.slice a3 d.length c3] 73)=wA at*;have cP:b0<wA.heap.size:=(Ai aJ).1;go_wp2_with (refine L73 b0 rfl aJ ?_)
  refine(bG.out wA aZ.out).mono ?_;rintro e w9 ⟨u,rfl,hu,bg⟩;obtain⟨u1,u3,rfl, -, -⟩:=hu.hold.slice;have ah:=hid (aZ.out.trans (bg.mono (show b0≤wA.heap.size by omega)));have HU:=hid (hu.le (show b0≤wA.heap.size by omega));have af:=hid ((ah.out.block r (by omega)).trans bC.out);have bt:=bg.size;have bw:=KB.of_below (Z▸ah.out) (Nat.zero_le _);have aN:=hid (H3.out.tend bw.bytes (fun g V=>ah.out.block g (by have:=qT H3.out.1 g V;omega)) (fun i g hi V=>ah.out.block g (by
   obtain⟨xs,hx⟩:=(H3.out.2.1 i hi).row;have:=qT hx g V;omega)))
  clear hu bg aJ bw aZ bC H3 bG;have l9:w9.cell? ⟨r,0,none⟩=some (.slice ag aa aj):=qd af.out 0;have s9:r<w9.heap.size:=by omega
  have f9:=frozen_of_row w9 r 0 _ _ af.out;obtain⟨il,cb,cu,ci,cp⟩:=info_parts qb0;have cA: ∃q:Bool,(J=[]↔q=true)∧(((row:Nat):Int)==(aa:Int))=q:=by
   refine⟨_,?_,rfl⟩;rw[beq_iff_eq,bS.out];by_cases hc:J=[]
   ·subst hc;rw[qcf,a4.out];simp
   ·rw[J6 t O hc,List.length_append,a4.out];simp only[hc,false_iff,List.length_singleton];omega
  obtain⟨q,hq,bJ⟩:=cA;have HQ:=hid hq;clear hq;have aS:=a4.out;generalize a5:O.map (·.map t.outC)=DO at*;generalize bc:J.map t.outC=CO at*;have ab: ∀k,(k=r∨(Value.slice ag aa aj).ownBlock=some k∨ ∃i,i<(t.accL O J).length∧(vs.getD i undef).ownBlock=some k)→F k:=fun k o=>(H4.out k).2 o
  clear H4 bS
  cases q
  case' false=>
   have aA:J≠[]:=fun e=>by have:=HQ.out.1 e;cases this
   have an:=J6 t O aA;rw[a5,bc]at an;have HV:=aN.out;rw[an]at HV ab;have bX: ∀k,(k=r∨(Value.slice ag aa aj).ownBlock=some k∨ ∃i,i<(DO++[CO]).length∧(vs.getD i undef).ownBlock=some k)→F k∨b0≤k:=fun k o=> .inl (ab k o)
   have ai:=hid HV;have ak:=hid bX;have ae:=hid (Tend.of_below F (Z▸ah.out));have aB:=hid af.out;have aW:=hid HU.out;clear HV ab bX an aN af HU ah f9;go_upto_region 4 with(fail)
   clear l9;obtain⟨X,hX⟩:=Ex w9;have cx:b0≤X.heap.size:=by rw[←hX];omega
   have ar:r<X.heap.size:=by rw[←hX];omega
   clear bt s9;subst hX;rename World=>X
   generalize ag=av at*;generalize aa=nv at*;generalize aj=cv at*;generalize vs=aK at*
  case' true=>
   have aA:J=[]:=HQ.out.2 rfl;have an:t.accL O J=DO:=by rw[aA,qcf,a5]
   have a9:CO=[]:=by rw[←bc,aA];rfl
   have HV:=aN.out;rw[an]at HV ab;have am:Below w9.heap.size w9 (w9.alloc (.cells #[.slice none 0 0] 67)):=Br.alloc Nl _;have br:=KB.of_below am (Nat.zero_le _);have bF:=HV.tend br.bytes (fun g V=>am.block g (qT HV.1 g V)) (fun i g hi V=>am.block g (by obtain⟨xs,hx⟩:=(HV.2.1 i hi).row;exact qT hx g V));have bz:=Wn w9 (.cells #[.slice none 0 0] 67);have aD:(w9.alloc (.cells #[.slice none 0 0] 67)).ownsRow w0.heap.size 67 1 (.slice (some ⟨w9.heap.size,0,none⟩) 1 1) 1 [.slice none 0 0]:=⟨rfl,.inr ⟨_,1,_,rfl,by omega,bz,by decide,by decide,rfl,rfl⟩⟩;obtain⟨bN,aP⟩:=Ex w9.heap.size;rw[show Value.slice (some ⟨w9.heap.size,0,none⟩) 1 1=Value.slice (some ⟨bN,0,none⟩) 1 1 by rw[aP]]at aD;have cd:(w9.alloc (.cells #[.slice none 0 0] 67)).heap.size=bN+1:=by rw[←aP];simp
   have ax:=hid bF;have aV:=hid aD;have bm:=(am.block r s9).trans af.out;have aE:=hid bm;have bA:(Value.slice ag aa aj).ownBlock≠some r:=fun e=>Yn ax.out.1 aE.out (by decide) r e rfl
   have bi:=hid (ah.out.trans (am.mono (show b0≤w9.heap.size by omega)));have bW:=hid (HU.out.kb br);clear bF aD bm am br bz HV;go_upto_region 4 with(first|((with_reducible show wpList _ _ _ (Oper.mk _ (Op.buildSlice _ _ _) _ _ _ _::_) _ _);refine qcp rfl _ rfl none 0 0 rfl ?_;rw[aP];generalize w9.alloc (.cells #[.slice none 0 0] 67)=wB at*)|(at_builtin;refine qeb rfl _ _ _ rfl w0.heap.size 67 (by decide) il (.slice none 0 0) 1 24 Tryz.underlying70 cb cu ci cp rfl (by decide) (.slice ag aa aj) DO.length vs rfl ax.out.1 w0.heap.size (.slice (some ⟨bN,0,none⟩) 1 1) 1 [.slice none 0 0] rfl aV.out (by omega) (by simp[Value.oneCell']) (by unfold maxLen;omega) (by omega) (by omega) ?_;intro v' w' aq au ad bo;have ac:=(ad.block r (by omega) bA).trans aE.out;obtain⟨av,nv,cv,rfl⟩:=qs aq;have cw:w'.cell? ⟨r,0,none⟩=some (.slice ag aa aj):=qd ac 0;have cf:=frozen_of_row w' r 0 _ _ ac;have cm:r<w'.heap.size:=(Ai ac).1))
   refine qm ?_;intro X hX;have aM: ∀k,k≠r→X.heap[k]? =w'.heap[k]? :=fun k o=>by rw[hX];exact heap_setCell_other _ _ _ _ o
   have bH:RowsV w0.heap.size w' (.slice av nv cv) (vs++[.slice none 0 0]) (DO++[CO]):=by rw[a9];exact RowsV.snoc ax.out aq au ad
   have b7:=au.size;have cx:b0≤X.heap.size:=by rw[hX];simp[World.setCell];omega
   have ar:r<X.heap.size:=by rw[hX];simp[World.setCell];omega
   have ai:=hid (bH.off ac (by decide) (by decide) (by decide) aM);have aB:=hid (show X.heap[r]? =some (.cells #[.slice av nv cv] 70 (0,0)) by rw[hX];exact heap_setCell_same _ r 0 _ _ _ ac);have aF: ∀(k:Nat) (c:Array Value),wB.heap[k]? =some (.cells c 5 (0,0))→X.heap[k]? =some (.cells c 5 (0,0)):=fun k c h=>by
    have h2:=au.bytes k c h;rw[aM k (JQ ac (by decide) k h2)];exact h2
   have aW:=hid (bW.out.tend aF);have ae:=hid (show Tend F w X from⟨by
    refine(Spare.of_below (fun k=> ¬F k) (Z▸bi.out)).trans (T:=fun k=>k≠r∧(Value.slice ag aa aj).ownBlock≠some k) ?_ (fun k _ o=>⟨fun e=>o (ab k (.inl e)),fun e=>o (ab k (.inr (.inl e)))⟩);refine⟨by rw[hX];exact ad.os,by rw[hX];exact ad.tape,by rw[hX];exact ad.output,by rw[hX];simp[World.setCell];omega,fun k o hs=>?_⟩;exact(aM k hs.1).trans (ad.block k o hs.2),fun k c h=>aF k c ((KB.of_below (Z▸bi.out) (Nat.zero_le _)).bytes k c h)⟩)
   have ay:=ax.out.len;have ak:=hid (show ∀k,(k=r∨(Value.slice av nv cv).ownBlock=some k∨ ∃i,i<(DO++[CO]).length∧((vs++[Value.slice none 0 0]).getD i undef).ownBlock=some k)→F k∨b0≤k from fun k o=>by
    rcases o with o|o|⟨i,hi,o⟩
    ·exact .inl (ab k (.inl o))
    ·rcases bo with h|h
     ·rw[h]at o;exact .inl (ab k (.inr (.inl o)))
     ·rw[h]at o;simp only[Option.some.injEq]at o;exact .inr (by omega)
    ·rw[qX,ay]at o;simp only[List.length_append,List.length_singleton]at hi;by_cases ap:i<DO.length
     ·rw[if_pos ap]at o;exact .inl (ab k (.inr (.inr ⟨i,ap,o⟩)))
     ·rw[if_neg ap,if_pos (by omega)]at o;cases o)
   generalize vs++[.slice none 0 0]=aK at*;clear hX aM bH b7 aF aq au ad bo ac cw cf cm bA ay a9 aA an aE ax aV bi bW aN af HU ah f9 l9 ab bt s9 cd aP
  all_goals
   obtain⟨ib,cg,b9,ca,cE⟩:=info_parts Yh;obtain⟨G,cj,e, -,bd,bD⟩:=qdt ai.out.1 (by simp);simp only[Value.slice.injEq]at e;obtain⟨rfl,rfl,rfl⟩:=e;have ay:=ai.out.len;have aO:=ai.out.2.1 DO.length (by simp);rw[qX,if_neg (by omega),if_pos rfl]at aO;obtain⟨rv,aR⟩:=Ex (aK.getD DO.length undef);have bh:X.cell? ⟨G,DO.length,none⟩=some rv:=bD _ _ (by
    rw[←aR,Lg,List.getElem?_eq_getElem (by rw[ay];simp)];rfl)
   obtain⟨cr,aU⟩:=YR ai.out.1 G rfl;rw[aR]at aO;obtain⟨xs,al,bT⟩:=id aO;obtain⟨ra,rn,rc,rfl⟩:=qs al;have ch:xs.length=CO.length:=by have:=al.1;simpa using this
   have cD:r≠G:=fun e=>Yn ai.out.1 aB.out (by decide) G rfl e.symm
   have bP:(Value.slice ra rn rc).ownBlock≠some r:=fun e=>Yn al aB.out (by decide) r e rfl
   have bL:(Value.slice ra rn rc).ownBlock≠some G:=fun e=>Yn al aU (by decide) G e rfl
   have hN:(DO++[CO]).length=row+1:=by simp[aS]
   rw[aS]at bh;generalize aL:(DO++[CO]).length=N at*;have cJ:(row:Int)<(N:Int):=by omega
   have cN:(N:Int)≤9223372036854775807:=by omega
   have HN:=hid hN;have cG:CO.length≤8388608:=cz.out;clear hN;have bO:=hid al;have cq:=hid bT;have ce:=hid bh;have bk:=hid aU;have aI:=hid aR;have bE:=hid bP;have bQ:=hid bL;have aT:=hid aS;have bM:=hid aL;clear al bT bh aU aR bP bL aS bD aO aL ay a5 bc;have U: ∀(W:World) (f:Bool),((f=false→Below X.heap.size X W)∧(f=true→Spare (fun k=>(Value.slice ra rn rc).ownBlock≠some k) X W∧KB w0.heap.size X W))→W.cell? ⟨r,0,none⟩=some (.slice (some ⟨G,0,none⟩) N cv)∧W.cell? ⟨G,row,none⟩=some (.slice ra rn rc)∧X.heap.size≤W.heap.size:=fun W f I=>by
    have h1:W.heap[r]? =X.heap[r]? ∧W.heap[G]? =X.heap[G]? ∧X.heap.size≤W.heap.size:=by
     cases f
     ·exact⟨(I.1 rfl).block r ar,(I.1 rfl).block G bd,(I.1 rfl).size⟩
     ·exact⟨(I.2 rfl).1.block r ar bE.out,(I.2 rfl).1.block G bd bQ.out,(I.2 rfl).1.size⟩
    refine⟨qd (h1.1.trans aB.out) 0,?_,h1.2.2⟩;have:=ce.out
    rw[qd bk.out row]at this;rw[qd (h1.2.1.trans bk.out) row];exact this
   refine Yt (n:=9) (fun f W=>(f=false→Below X.heap.size X W)∧(f=true→Spare (fun k=>(Value.slice ra rn rc).ownBlock≠some k) X W∧KB w0.heap.size X W)) 8 [.v 20 (.slice (some ⟨G,0,none⟩) N cv),.v 21 (.int .i64 row),.v 22 (.slice (some ⟨G,0,none⟩) N cv),.v 23 (.int .i64 row),.z 24 G row,.v 25 (.slice ra rn rc),.v 26 (.slice u1 ND.length u3),.p 27 (fun u W=> ∃q,u= .slice (some ⟨q,0,none⟩) 1 1∧X.heap.size≤q∧W.heap[q]? =some (.cells #[.slice u1 ND.length u3] 24 (0,0))),.p 28 (fun u W=>ListO w0.heap.size W u (CO++[ND])∧(u.ownBlock=(Value.slice ra rn rc).ownBlock∨ ∀g,u.ownBlock=some g→X.heap.size≤g))] (by exact⟨(fun _ _ hb _ h=>by obtain⟨q,e,h1,h2⟩:=h;exact⟨q,e,h1,qf h2 hb⟩),(fun _ _ hb u h=>⟨h.1.below hb,h.2⟩),trivial⟩) ⟨fun _=>Br.drew,fun h=>(by cases h)⟩ (fun f W W' h hb=>⟨fun e=>(h.1 e).trans (hb.mono (h.1 e).size),fun e=>⟨(h.2 e).1.trans (Spare.of_below _ hb) (fun _ _ h=>h),(h.2 e).2.trans (KB.of_below hb (by have:=(h.2 e).1.size;omega))⟩⟩) ?_ ?_ ?_
   ·repeat' (with_reducible first|exact qB|refine qw ?_ ?_)
    all_goals try
     refine .inr ?_;intro A x W f hA I hf S D K hK;have a1:=hA.2 1 (by decide);conv at a1=>rhs;whnf
     have a2:=hA.2 2 (by decide);conv at a2=>rhs;whnf
     have a6:=hA.2 6 (by decide);conv at a6=>rhs;whnf
     simp only[Q7,yk]at D;have y0:=(U W f I).1;have y1:=(U W f I).2.1;have y2:=(U W f I).2.2;have y3:r<W.heap.size:=by omega
     have y4:G<W.heap.size:=by omega
     clear S hA;go_simp
     exact hK _ _ BR rfl
    any_goals exact .inl rfl
    all_goals refine .inr ?_
    intro A x W f hA I hf S _ K hK;have cC:=gw hA S 6 26;clear S hA;have cH:A.tmps[26]?.getD undef= .slice u1 ND.length u3:=by rw[←Lh];exact cC
    go_simp
    exact hK _ _ (Br.alloc Nl _) ⟨W.heap.size,rfl,(U W f I).2.2,Wn W _⟩
   ·intro A x W hA I S K hK;have cc:=gw hA S 5 25;have b6:(fun u W=> ∃q,u= .slice (some ⟨q,0,none⟩) 1 1∧X.heap.size≤q∧W.heap[q]? =some (.cells #[.slice u1 ND.length u3] 24 (0,0))) (x 27) W:=S ⟨7,.data⟩ (by simp) rfl;have co:A.tmps.getD 27 undef=x 27:=hA.1 27 (by decide);clear S hA;have hB:=I.1 rfl;have ho:=qi bO.out (fun g _ V=>hB.block g V);obtain⟨qb,eq,cO,bJ⟩:=b6;refine YM _ _ 67 rfl w0.heap.size 24 ib (.slice none 0 0) 24 Tryz.underlying67 cg b9 ca cE rfl (.slice ra rn rc) CO.length xs cc ho (.slice (some ⟨qb,0,none⟩) 1 1) 1 [.slice u1 ND.length u3] (co.trans eq) ⟨rfl,by simp[Value.oneCell'],.inr ⟨⟨qb,0,none⟩,1,rfl,jH bJ⟩⟩ (by unfold maxLen;omega) (by omega) (by have:=hB.size;omega) ?_;intro v' w' k1 k2 k3;obtain⟨k4,k5⟩:=qiH ho (by decide) k2 (by have:=hB.size;omega);have cB: ∀k,(Value.slice ra rn rc).ownBlock=some k→k<X.heap.size:=fun k o=>qT bO.out k o
    have k6:ListO w0.heap.size w' v' (CO++[ND]):=ListO.snoc (w:=W) (vs:=xs) (x:= .slice u1 ND.length u3) (fun i hi=>(cq.out i hi).kb (KB.of_below hB (Nat.zero_le _))) ch ((aW.out.kb (KB.of_below hB (Nat.zero_le _))).le b8) k1 k4;refine hK v' w' (fun h=>by cases h) ⟨fun h=>(by cases h),fun _=>⟨(Spare.of_below _ hB).trans k5 (fun _ _ h=>h),(KB.of_below hB (by omega)).trans k4⟩⟩ ⟨.inr (fun _ h=>h),.inr (fun _ h=>h),.inr (fun _ h=>h),.inr (fun _ h=>h),.inr (fun _ h=>h),.inr (fun _ h=>h),.inr (fun _ h=>h),.inr (fun u h=>by obtain⟨q,e,j1,j2⟩:=h;exact⟨q,e,j1,(k5.block q (Ai j2).1 (fun e2=>by have:=cB q e2;omega)).trans j2⟩),.inl rfl,trivial⟩ ⟨k6,?_⟩;rcases k3 with k3|k3
    ·exact .inl k3
    ·refine .inr fun g V=>?_
     rw[k3]at V;cases V;exact hB.size
   intro x W I bY;obtain⟨-,ao, -⟩:=bY;change (fun u W=>ListO w0.heap.size W u (CO++[ND])∧(u.ownBlock=(Value.slice ra rn rc).ownBlock∨ ∀g,u.ownBlock=some g→X.heap.size≤g)) (x 28) W at ao
   obtain⟨y0,y1,y2⟩:=U W true I;obtain⟨az,a7⟩:=I.2 rfl;obtain⟨aQ,aw⟩:=ao;obtain⟨ys,bI⟩:=aQ.row;obtain⟨a8,n8,c8,ao⟩:=qs bI;rw[ao]at aQ aw;refine qr ?_;simp only[QP,Act.put,Ls,ao];have aH:=RowsV.put (w1:=W) (x:= .slice a8 n8 c8) ai.out aQ a7 (by rw[aI.out];exact az) (by rw[aI.out];exact aw);rw[aT.out]at aH;have aG:W.heap[G]? =some (.cells cr 67 (0,0)):=(az.block G bd bQ.out).trans bk.out;have ba:W.heap[r]? =some (.cells #[.slice (some ⟨G,0,none⟩) N cv] 70 (0,0)):=(az.block r ar bE.out).trans aB.out;have ct:W.frozen? ⟨G,row,none⟩=false:=frozen_of_row W G row _ _ aG;have y4:G<W.heap.size:=by omega
   have bZ:=hid aH;have b5:=hid aG;have b3:=hid ba;have aC:=hid az;have cF:=hid a7;have cn:=hid aw;generalize x 27=cK;clear aH aG ba az a7 aw bI aQ ao I U y0;go_wp2_with fail
   refine qr ?_;go_wp2_with fail
   refine qv ?_;have bn: ∀k,k≠G→(W.setCell ⟨G,row,none⟩ (.slice a8 n8 c8)).heap[k]? =W.heap[k]? :=fun k o=>heap_setCell_other _ _ _ _ o
   have bu:(W.setCell ⟨G,row,none⟩ (.slice a8 n8 c8)).heap.size=W.heap.size:=by simp[World.setCell]
   have bU: ∀(k:Nat) (c:Array Value),X.heap[k]? =some (.cells c 5 (0,0))→(W.setCell ⟨G,row,none⟩ (.slice a8 n8 c8)).heap[k]? =some (.cells c 5 (0,0)):=fun k c h=>by
    have h3:=cF.out.bytes k c h;rw[bn k (JQ b5.out (by decide) k h3)];exact h3
   have bR:=hid bU;have bV:=hid bn;have ck:=hid bu;have aX:=hid (show(W.setCell ⟨G,row,none⟩ (.slice a8 n8 c8)).os=w.os∧(W.setCell ⟨G,row,none⟩ (.slice a8 n8 c8)).tape=w.tape∧(W.setCell ⟨G,row,none⟩ (.slice a8 n8 c8)).output=w.output from⟨aC.out.os.trans ae.out.sp.os,aC.out.tape.trans ae.out.sp.tape,aC.out.output.trans ae.out.sp.output⟩);clear bU bn bu ct y1 y2 y4;generalize W.setCell ⟨G,row,none⟩ (.slice a8 n8 c8)=Y at*;go_wp2
   go_ret
   have aL:=bM.out;simp only[List.length_append,List.length_singleton]at aL;have cM:aK.length=N:=by have:=ai.out.len;rw[bM.out]at this;exact this
   refine⟨_,fun k=>k=r∨(Value.slice (some ⟨G,0,none⟩) N cv).ownBlock=some k∨ ∃i,i<(DO++[CO++[ND]]).length∧((aK.set row (.slice a8 n8 c8)).getD i undef).ownBlock=some k,rfl,by rw[Z];exact aW.out.tend bR.out,?_,⟨_,_,(bV.out r cD).trans b3.out,h2,by rw[bb.out];exact bZ.out,fun k=>by rw[bb.out]⟩,?_,fun k c h=>bR.out k c (ae.out.bytes k c h)⟩
   ·rw[Z];rintro k (o|o|⟨i,hi,o⟩)
    ·exact ak.out k (.inl o)
    ·exact ak.out k (.inr (.inl o))
    ·simp only[List.length_append,List.length_singleton]at hi;rw[zu _ _ _ _ _ (by omega)]at o;by_cases ap:row=i
     ·rw[if_pos ap]at o;rcases cn.out with h|h
      ·rw[h]at o;exact ak.out k (.inr (.inr ⟨row,by omega,by rw[←aT.out,aI.out];exact o⟩))
      ·exact .inr (by have:=h k o;omega)
     ·rw[if_neg ap]at o;exact ak.out k (.inr (.inr ⟨i,by omega,o⟩))
   ·refine ae.out.sp.trans (T:=fun k=>k≠G∧(Value.slice ra rn rc).ownBlock≠some k) ⟨aX.out.1.trans ae.out.sp.os.symm,aX.out.2.1.trans ae.out.sp.tape.symm,aX.out.2.2.trans ae.out.sp.output.symm,by rw[ck.out];exact aC.out.size,fun k o hs=>(bV.out k hs.1).trans (aC.out.block k o hs.2)⟩ (fun k o hF=>⟨fun e=>?_,fun e=>?_⟩)
    ·rcases ak.out k (.inr (.inl (by rw[e];rfl)))with h|h
     ·exact hF h
     ·omega
    ·rcases ak.out k (.inr (.inr ⟨row,by omega,by rw[←aT.out,aI.out];exact e⟩))with h|h
     ·exact hF h
     ·omega
theorem qcG (t:TreeV)(kz z1 z2 zs:List Int){m i:Nat}(h:i<m):(t.allC kz z1 z2 zs m).getD i []=t.callsR kz z1 z2 zs i:=by simp[TreeV.allC,Lg,h]
theorem qaJ {t:TreeV}(h:t.validE=0)(o:0≤t.l∧t.l≤4294967295)(kz z1 z2 zs:List Int)(r:Nat):1≤(t.callsR kz z1 z2 zs r).length∧(t.callsR kz z1 z2 zs r).length≤zs.length+1:=by
 have:=Zq h o kz z1 z2 zs r
 unfold TreeV.callsR;rw[qV];exact⟨this.1,this.2.1⟩
theorem RowsV.nil (B:Nat)(w:World):RowsV B w (.slice none 0 0) [] []:=⟨Wo _ _ _ _,fun i hi=>by simp at hi,fun i j g _ o=>by simp at o⟩
theorem RowsV.le {B b:Nat}{w:World}{o:Value}{vs:List Value}{LL:List (List (List Int))}(h:RowsV B w o vs LL)(q:b≤B):RowsV b w o vs LL:=⟨ownsRow_le h.1 q,fun i hi=>(h.2.1 i hi).le q,h.2.2⟩
theorem qh7 (t:TreeV)(v:Value)(w:World)(h:t.validE≠0):
  Calls Tryz.prog 69 #[t.val,v] w fun e w'=>e= .returned (.tuple #[.slice none 0 0,.int .i64 t.validE])∧Below w.heap.size w w':=by
 obtain⟨I,q⟩:=Ex w.heap.size;have G:=hid (YG t);have r:Below I w (w.alloc (.cells t.c 26)):=by rw[←q];exact Br.alloc Nl _
 have o:=Wn w (.cells t.c 26);rw[q]at o;generalize t.validE=O at*;have U:(O != 0)=true:=by rw[bne_iff_ne];exact h
 clear h;unfold TreeV.val at*;go_enter Tryz.func69,Tryz.ntmps69
 go_upto_region 1 with(fail)
 generalize w.alloc (.cells t.c 26)=S at*;go_wp2_with (refine L26 I rfl o ?_)
 refine(G.out S).mono ?_;rintro e V ⟨rfl,D⟩;have J:=hid (r.trans (D.mono (by have:=(Ai o).1;omega)));clear o r D;go_wp2
 go_ret2
 exact⟨rfl,by rw[q];exact J.out⟩
theorem qh9 (t:TreeV)(kz z1 z2 zs:List Int)(v:Value)(w:World)(h:TreeOk t kz z1 z2 w)(hv:Hold w v zs)(hn:zs.length≤4194304):
  Calls Tryz.prog 69 #[t.val,v] w fun e w'=> ∃u,e= .returned (.tuple #[u,.int .i64 0])∧(∃R,t.topAt kz z1 z2 (t.leafZ kz z1 z2 zs) R∧ ∃vs,RowsV w.heap.size w' u vs (t.accL (t.allC kz z1 z2 zs R) (t.callsR kz z1 z2 zs R)))∧Below w.heap.size w w':=by
 obtain⟨I,J⟩:=Ex w.heap.size;have ae:=YG t;simp only[h.v]at ae;have aw:=hid ae;have HT:=hid h;have aD:=hid (fun(W:World) (hb:Below I w W)=>qj7 t h.v h.l zs v W (hv.below (J▸hb)) (by omega));have ap:=hid (fun(q:Nat) (W:World) (x:Value) (F0:Nat→Prop) (hw:Below w.heap.size w W) (hI:qjP t w q [] [] F0 W) (hx:ListO w.heap.size W x (QC t.ln zs)) (aa: ∀g,x.ownBlock=some g→ ¬F0 g)=>qh6 (qcN h q) h hn x W F0 hw hI hx aa qgi);obtain⟨va,vc,rfl, -, -⟩:=hv.slice;have ao:Below I w (w.alloc (.cells t.c 26)):=by rw[←J];exact Br.alloc Nl _
 have U:=Wn w (.cells t.c 26);rw[J]at U;generalize aC:QC t.ln zs=CZ at*;clear h hv ae aC;unfold TreeV.val at*;go_enter Tryz.func69,Tryz.ntmps69
 go_upto_region 1 with(fail)
 generalize w.alloc (.cells t.c 26)=wA at*;go_wp2_with (refine L26 I rfl U ?_)
 refine(aw.out wA).mono ?_;rintro e w2 ⟨rfl,ak⟩;have ad:=qf U ak;have an:=ao.trans (ak.mono (by have:=(Ai U).1;omega));have ay:=hid an;have aJ:I<w2.heap.size:=(Ai ad).1;clear U ao ak an;go_upto_region 5 with(fail)
 refine qm ?_;intro V hV;obtain⟨q,Y⟩:=Ex w2.heap.size;have ai:V.heap[q]? =some (.cells #[.slice none 0 0] 70 (0,0)):=by rw[hV,←Y];exact Wn _ _
 have af:Below q w2 V:=by rw[hV,←Y];exact Br.alloc Nl _
 have ah:V.heap[I]? =some (.cells t.c 26 (0,0)):=(af.block I (by omega)).trans ad;have am:=hid (ay.out.trans (af.mono (show I≤q by omega)));have ax:q<V.heap.size:=(Ai ai).1;have ag:qjP t w q [] [] (fun k=>k=q) V:=⟨.slice none 0 0,[],ai,by omega,RowsV.nil _ _,fun k=>⟨fun h=> .inl h,fun h=>by
  rcases h with h|h|⟨i,hi,h⟩
  ·exact h
  ·cases h
  ·simp[TreeV.accL]at hi⟩⟩
 have aj:=hid ag;rw[Y];have aH:I<q:=by omega
 clear hV af ad Y ai ag;refine qI (n:=5) (w0:=V) (B:=V.heap.size) [.v 13 (.agg t.c),.v 14 (.agg t.c),.v 15 (.slice va zs.length vc),.p 16 (fun u W=>ListO V.heap.size W u CZ),.v 17 (.func (.func 109) #[] #[.pointer (some ⟨q,0,none⟩)])] (by exact⟨(fun _ _ _ h hb=>ListO.below h hb),trivial⟩) Br.drew Nl ?_ ?_
 ·repeat' (with_reducible first|exact qB|refine qw ?_ ?_)
  ·intro AA x W r G O o D K S;have a2:=r.2 2 (by decide);conv at a2=>rhs;whnf
   clear o r;exact wp_load_row 26 _ rfl I a2 _ _ _ _ (qf ah G) Tryz.underlying26 rfl (by kernel_rfl) (S _ _ Br rfl)
  ·intro AA x W r G O o D K S;have a2:=r.2 2 (by decide);conv at a2=>rhs;whnf
   clear o r;exact wp_load_row 26 _ rfl I a2 _ _ _ _ (qf ah G) Tryz.underlying26 rfl (by kernel_rfl) (S _ _ Br rfl)
  ·intro AA x W r G O o D K S;have a1:=r.2 1 (by decide);conv at a1=>rhs;whnf
   clear o r;go_simp
   exact S _ _ Br rfl
  ·intro AA x W r G O o _ K S;have aL:=gv r o 1 14;have aM:=gv r o 2 15;clear o r;go_simp
   refine(aD.out W (am.out.trans (G.mono (by omega)))).mono ?_;rintro e w5 ⟨u,rfl,ho,au⟩;exact S _ _ au (ho.le O)
  ·intro AA x W r G O o D K S;have a7:=r.2 7 (by decide);conv at a7=>rhs;whnf
   clear o r;go_simp
   exact S _ _ Br rfl
 intro x W G O aq;obtain⟨Z, -⟩:=aq;change (fun u W=>ListO V.heap.size W u CZ) (x 16) W at Z
 refine qr ?_;simp only[QP,Act.put,Ls];generalize x 16=X at*;have aa: ∀g,X.ownBlock=some g→ ¬g=q:=fun g hg e=>by
  obtain⟨vs,ho, -⟩:=Z;rcases ho.2 with⟨rfl, -⟩|⟨g2,aK,aI,rfl,h5, -⟩
  ·cases hg
  ·simp only[Value.ownBlock,Option.some.injEq]at hg;omega
 have ab:=am.out.trans (G.mono (show I≤V.heap.size by omega));have hk:=KB.of_below G (Nat.zero_le _);have ac:=(qcN HT.out q).keep aj.out (G.mono (show w.heap.size≤V.heap.size by omega)) (fun k hk=>G.block k (by rw[show k=q from hk];exact ax)) hk.bytes;have HR:=hid (ap.out q W X (fun k=>k=q) (by rw[J];exact ab) ac (by rw[J];exact Z.le (by omega)) aa);have aE:=hid ab;have aG:q<W.heap.size:=by have:=G.size;omega
 clear Z aa ab hk ac ap aj ah;go_wp2_with fail
 refine HR.out.mono ?_;rintro e w6 ⟨rfl,⟨R,F',hR,hI, -⟩,al, -⟩;go_wp2_with fail
 refine qv ?_;obtain⟨lv,vs,l1,l2,l3, -⟩:=hI;obtain⟨av,aA,aF,rfl⟩:=qs l3.1;have c0:w6.cell? ⟨q,0,none⟩=some (.slice av aA aF):=qd l1 0;have s0:q<w6.heap.size:=(Ai l1).1;have aB:=hid l3;have az:=hid al;have ar:=hid hR;clear l1 l3 al hR;go_wp2
 go_ret2
 exact⟨_,rfl,⟨R,ar.out,_,aB.out⟩,(show Below w.heap.size w W by rw[J];exact aE.out).trans az.out⟩
def TreeV.rowsZ (t:TreeV)(kz z1 z2 zs:List Int):List (List (List Int)):=if t.validE=0 then(t.allC kz z1 z2 zs ((t.rowsOf zs.length).length - 1+1)).map (·.map t.outC) else []
theorem qh8 (t:TreeV)(kz z1 z2 zs:List Int)(v:Value)(w:World)(o:0≤t.l∧t.l≤4294967295)(I:Hold w (.slice t.ka t.kl t.kc) kz)(O:Hold w (.slice t.sa t.sl t.sc) z1)(U:Hold w (.slice t.pa t.pl t.pc) z2)(S:Hold w v zs)(D:zs.length≤4194304):
  Calls Tryz.prog 69 #[t.val,v] w fun e w'=> ∃u vs,e= .returned (.tuple #[u,.int .i64 t.validE])∧RowsV w.heap.size w' u vs (t.rowsZ kz z1 z2 zs)∧Below w.heap.size w w':=by
 unfold TreeV.rowsZ;by_cases h:t.validE=0
 ·refine(qh9 t kz z1 z2 zs v w ⟨h,o,I,O,U⟩ S D).mono ?_;rintro e w' ⟨u,rfl,⟨R,J,vs,q⟩,r⟩
  have V:=Qc h o kz z1 z2 zs;have G:=qee (yH h D) kz z1 z2 (Yg h o kz z1 z2 zs) V.2.2;rw[qbg J G]at q;refine⟨u,vs,by rw[h],?_,r⟩;rw[if_pos h,TreeV.allC_succ,List.map_append];rw[J6 t _ (List.length_pos_iff.1 (qaJ h o kz z1 z2 zs _).1)]at q;exact q
 ·refine(qh7 t v w h).mono ?_;rintro e w' ⟨rfl,r⟩
  exact⟨_,[],rfl,by rw[if_neg h];exact RowsV.nil _ _,r⟩
def DigV (B:Nat)(W:World)(v:Value)(L:List (List Int))(ds:List Value):Prop:=
 W.ownsRow B 24 1 v L.length ds∧ ∀j,j<L.length→OwnB B W (ds.getD j undef) (qC L j)
def dgV (DS:List (List Value))(a i:Nat):Value:=(DS.getD a []).getD i undef
theorem DigV.len {B:Nat}{W:World}{v:Value}{L:List (List Int)}{ds:List Value}(h:DigV B W v L ds):ds.length=L.length:=by have:=h.1.1;simpa using this
theorem DigV.keep {B b:Nat}{W W':World}{v:Value}{L:List (List Int)}{ds:List Value}(h:DigV B W v L ds)(k:KB b W W')(q: ∀g,v.ownBlock=some g→W'.heap[g]? =W.heap[g]?):DigV B W' v L ds:=
 ⟨Q6 h.1 q,fun j o=>(h.2 j o).kb k⟩
theorem qgM {B:Nat}{W:World}{v:Value}{z:List Int}(h:OwnB B W v z): ∀g,v.ownBlock=some g→B≤g∧g<W.heap.size:=fun g o=>by
 exact qe1 h.2 g o
structure ListsV (B:Nat)(W:World)(xs:List Value)(LL:List (List (List Int)))(DS:List (List Value)):Prop where
 lx:xs.length=LL.length
 ld:DS.length=LL.length
 each: ∀a,a<LL.length→DigV B W (xs.getD a undef) (LL.getD a []) (DS.getD a [])
 ax: ∀a b g,a≠b→(xs.getD a undef).ownBlock=some g→(xs.getD b undef).ownBlock≠some g
 ad: ∀a i b j g,(a≠b∨i≠j)→(dgV DS a i).ownBlock=some g→(dgV DS b j).ownBlock≠some g
namespace ListsV
variable {B:Nat} {W W':World} {xs:List Value} {LL:List (List (List Int))} {DS:List (List Value)}
theorem xlt (h:ListsV B W xs LL DS): ∀a g,(xs.getD a undef).ownBlock=some g→B≤g∧g<W.heap.size:=fun a g o=>by
 by_cases q:a<LL.length
 ·exact⟨Yo (h.each a q).1 g o,qT (h.each a q).1 g o⟩
 ·rw[Lg,List.getElem?_eq_none (by have:=h.lx;omega)]at o
  cases o
theorem dlt (h:ListsV B W xs LL DS): ∀a i g,(dgV DS a i).ownBlock=some g→B≤g∧g<W.heap.size:=fun a i g o=>by
 unfold dgV at o;by_cases q:a<LL.length
 ·by_cases hi:i<(LL.getD a []).length
  ·exact qgM ((h.each a q).2 i hi) g o
  ·rw[Lg (l:=DS.getD a []),List.getElem?_eq_none (by rw[(h.each a q).len];omega)]at o
   cases o
 ·rw[Lg (l:=DS),List.getElem?_eq_none (by have:=h.ld;omega)]at o;simp at o
  cases o
theorem keep {b:Nat}(h:ListsV B W xs LL DS)(k:KB b W W')(q: ∀a g,(xs.getD a undef).ownBlock=some g→W'.heap[g]? =W.heap[g]?):ListsV B W' xs LL DS:=
 ⟨h.lx,h.ld,fun a o=>(h.each a o).keep k (q a),h.ax,h.ad⟩
theorem below (h:ListsV B W xs LL DS)(o:Below W.heap.size W W'):ListsV B W' xs LL DS:=
 h.keep (KB.of_below o (Nat.zero_le _)) fun a g q=>o.block g (h.xlt a g q).2
theorem off {g:Nat}{c:Array Value}{T:TypeId}{fr:Nat×Nat}(h:ListsV B W xs LL DS)(r:W.heap[g]? =some (.cells c T fr))(G:T≠24)(I:T≠5)(q:But g W W'):ListsV B W' xs LL DS:=
 h.keep (KB.of_but q (Nat.zero_le _) (Nat.zero_le _) r I) fun a k o=>by
  refine q.block k (h.xlt a k o).2 ?_;by_cases D:a<LL.length
  ·exact Yn (h.each a D).1 r G k o
  ·rw[Lg,List.getElem?_eq_none (by have:=h.lx;omega)]at o
   cases o
theorem xoff {g:Nat}{c:Array Value}{T:TypeId}{fr:Nat×Nat}(h:ListsV B W xs LL DS)(D:W.heap[g]? =some (.cells c T fr))(r:T≠24): ∀a k,(xs.getD a undef).ownBlock=some k→k≠g:=fun a k o=>by
 by_cases q:a<LL.length
 ·exact Yn (h.each a q).1 D r k o
 ·rw[Lg,List.getElem?_eq_none (by have:=h.lx;omega)]at o
  cases o
theorem nil (B:Nat)(W:World):ListsV B W [] [] []:=⟨rfl,rfl,(fun a q=>by simp at q),(fun a b g _ o=>by rw[show([]:List Value).getD a undef=undef from rfl]at o;cases o),(fun a i b j g _ o=>by rw[show dgV [] a i=undef from rfl]at o;cases o)⟩
theorem le {b:Nat}(h:ListsV B W xs LL DS)(q:b≤B):ListsV b W xs LL DS:=⟨h.lx,h.ld,fun a o=>⟨ownsRow_le (h.each a o).1 q,fun j r=>((h.each a o).2 j r).le q⟩,h.ax,h.ad⟩
theorem more (h:ListsV B W xs LL DS):ListsV B W (xs++[Value.slice none 0 0]) (LL++[[]]) (DS++[[]]):=by
 have I: ∀a,((xs++[Value.slice none 0 0]).getD a undef).ownBlock=(xs.getD a undef).ownBlock:=fun a=>by
  rw[qX];split
  ·rfl
  ·rw[Lg,List.getElem?_eq_none (by omega)];split<;>rfl
 have D: ∀a,(DS++[[]]).getD a []=DS.getD a []:=fun a=>by
  rw[qX];split
  ·rfl
  ·rw[Lg,List.getElem?_eq_none (by omega)];split<;>rfl
 have G: ∀a i,dgV (DS++[[]]) a i=dgV DS a i:=fun a i=>by unfold dgV;rw[D]
 refine⟨by simp[h.lx],by simp[h.ld],fun a J=>?_,fun a b g q r=>?_,fun a i b j g q r=>?_⟩
 ·rw[D,qX,qX];by_cases o:a<LL.length
  ·rw[if_pos o,if_pos (by rw[h.lx];exact o)];exact h.each a o
  ·have S:a=LL.length:=by simp at J;omega
   subst S;rw[if_neg o,if_pos rfl,if_neg (by rw[h.lx];exact o),if_pos h.lx.symm,Lg,List.getElem?_eq_none (by have:=h.ld;omega)];exact⟨Wo _ _ _ _,fun j O=>by simp at O⟩
 ·rw[I]at r⊢;exact h.ax a b g q r
 ·rw[G]at r⊢;exact h.ad a i b j g q r
theorem put {a:Nat}{v' x:Value}{z:List Int}(h:ListsV B W xs LL DS)(O:a<LL.length)(hn:W'.ownsRow B 24 1 v' ((LL.getD a []).length+1) (DS.getD a []++[x]))(hz:OwnB B W x z)(hk:KB B W W')(aa:Spare (fun k=>(xs.getD a undef).ownBlock≠some k) W W')
  (r:v'.ownBlock=(xs.getD a undef).ownBlock∨ ∀g,v'.ownBlock=some g→W.heap.size≤g) (X: ∀g,x.ownBlock=some g→ ∀b j,(dgV DS b j).ownBlock≠some g):ListsV B W' (xs.set a v') (LL.set a (LL.getD a []++[z])) (DS.set a (DS.getD a []++[x])):=by
 have hl:=(h.each a O).len;have Y:a<xs.length:=by rw[h.lx];exact O
 have Z:a<DS.length:=by rw[h.ld];exact O
 have ab: ∀b i,dgV (DS.set a (DS.getD a []++[x])) b i=if a=b∧i=(DS.getD a []).length then x else dgV DS b i:=fun b i=>by
  unfold dgV;rw[zu _ _ _ _ _ Z];by_cases o:a=b
  ·subst o;rw[if_pos rfl,qX];by_cases D:i<(DS.getD a []).length
   ·rw[if_pos D,if_neg (fun e=>by omega)]
   ·rw[if_neg D];by_cases J:i=(DS.getD a []).length
    ·rw[if_pos J,if_pos ⟨rfl,J⟩]
    ·rw[if_neg J,if_neg (fun e=>J e.2),Lg (l:=DS.getD a []),List.getElem?_eq_none (by omega)];rfl
  ·rw[if_neg o,if_neg (fun e=>o e.1)]
 refine⟨by simp[h.lx],by simp[h.ld],fun b hb=>?_,fun b c g I G=>?_,fun b i c j g I G=>?_⟩
 ·rw[List.length_set]at hb;rw[zu _ _ _ _ _ Y,zu _ _ _ _ _ O,zu _ _ _ _ _ Z];by_cases o:a=b
  ·subst o;rw[if_pos rfl,if_pos rfl,if_pos rfl];refine⟨by rw[List.length_append,List.length_singleton];exact hn,fun j hj=>?_⟩;rw[List.length_append,List.length_singleton]at hj;unfold qC;rw[qX,qX,hl];by_cases D:j<(LL.getD a []).length
   ·rw[if_pos D,if_pos D];exact((h.each a O).2 j D).kb hk
   ·rw[if_neg D,if_neg D,if_pos (by omega),if_pos (by omega)];exact hz.kb hk
  ·rw[if_neg o,if_neg o,if_neg o];refine(h.each b hb).keep hk fun g G=>aa.block g (h.xlt b g G).2 fun e=>h.ax a b g o e G
 ·have key: ∀e g,((xs.set a v').getD e undef).ownBlock=some g→(a=e∧v'.ownBlock=some g)∨(a≠e∧(xs.getD e undef).ownBlock=some g):=fun e g U=>by
   rw[zu _ _ _ _ _ Y]at U;by_cases o:a=e
   ·rw[if_pos o]at U;exact .inl ⟨o,U⟩
   ·rw[if_neg o]at U;exact .inr ⟨o,U⟩
  intro hc;rcases key b g G with⟨rfl,V⟩|⟨V,k2⟩<;>rcases key c g hc with⟨rfl,S⟩|⟨S,k4⟩
  ·exact I rfl
  ·rcases r with r|r
   ·rw[r]at V;exact h.ax a c g S V k4
   ·have:=r g V;have:=(h.xlt c g k4).2;omega
  ·rcases r with r|r
   ·rw[r]at S;exact h.ax a b g V S k2
   ·have:=r g S;have:=(h.xlt b g k2).2;omega
  ·exact h.ax b c g I k2 k4
 ·rw[ab]at G⊢;by_cases D:a=b∧i=(DS.getD a []).length
  ·rw[if_pos D]at G;rw[if_neg (fun e=>by rcases I with q|q;exact q (D.1.symm.trans e.1);exact q (D.2.trans e.2.symm))];exact X g G c j
  ·rw[if_neg D]at G;by_cases J:a=c∧j=(DS.getD a []).length
   ·rw[if_pos J];exact fun e=>X g e b i G
   ·rw[if_neg J];exact h.ad b i c j g I G
end ListsV
theorem RowsV.formP {B:Nat}{w:World}{v:Value}{vs:List Value}{LL:List (List (List Int))}(h:RowsV B w v vs LL): ∃a c,v= .slice a LL.length c∧(LL.length:Int)≤9223372036854775807:=by
 rcases h.1.2 with⟨rfl,e⟩|⟨g,r,q,rfl, -, -,D,o, -⟩
 ·exact⟨none,0,by rw[e],by omega⟩
 ·exact⟨_,_,rfl,by unfold maxLen at o;omega⟩
theorem RowsV.getP {B i:Nat}{w:World}{q:Value}{vs:List Value}{LL:List (List (List Int))}(h:RowsV B w q vs LL)(hi:i<LL.length): ∃g o,q= .slice (some ⟨g,0,none⟩) LL.length o∧g<w.heap.size∧w.cell? ⟨g,i,none⟩=some (vs.getD i undef):=by
 obtain⟨g,o,e, -,D,r⟩:=qdt h.1 (by omega);refine⟨g,o,e,D,r i _ ?_⟩;have:=h.len
 rw[Lg,List.getElem?_eq_getElem (by omega)];rfl
theorem JG {ops:Array Oper}{D:List Oper}{o:Oper}{a:Act}{Q:Exit→Act→World→Prop}{W:World}(Y:o.guard=none)(s x:Operand)
  (ho:o.op= .call { callee:= .builtin .append,args:= #[s,x],argTypes:= #[67,67] }) (B:Nat) (v:Value) (n:Nat) (ds:List Value) (u:Value) (hs:a.eval s=v) (r:W.ownsRow B 24 1 v n ds) (hu:u.oneCell'=true)
  (hx:a.eval x= .slice (some ⟨W.heap.size,0,none⟩) 1 1) (aa:n≤8388608) (hB:B≤W.heap.size)
  (h: ∀v' w',w'.ownsRow B 24 1 v' (n+1) (ds++[u])→KB B W w'→Spare (fun k=>v.ownBlock≠some k) W w'→(v'.ownBlock=v.ownBlock∨ ∀g,v'.ownBlock=some g→W.heap.size≤g)→wpList Tryz.prog ops Q D (a.put o.dst v') w'):wpList Tryz.prog ops Q (o::D) a (W.alloc (.cells #[u] 24)):=by
 obtain⟨ib,S,V,X,Z⟩:=info_parts Yh;refine wpList_append_own_at _ Y s x _ ho B 24 ib (.slice none 0 0) 1 24 Tryz.underlying67 S V X Z rfl (by decide) v n ds hs (r.alloc _) ⟨W.heap.size,0,none⟩ 1 1 [u] hx rfl (cell_one_new W u _) (by simpa using hu) (by unfold maxLen;omega) (by omega) (by simp;omega) fun v' w' h2 h3 _ G=>?_
 have q:Spare (fun k=>v.ownBlock≠some k) W w':=(Spare.of_below _ (Br.alloc Nl _)).trans (Spare.of_grown h3) (fun _ _ h=>h);have U:KB B W w':=⟨q.os,q.tape,q.output,q.size,fun k hk=>q.block k (by omega) (fun J=>by have:=Yo r k J;omega),fun k c I=>by
   rw[q.block k (Ai I).1 (fun J=>?_)]
   ·exact I
   ·obtain⟨c2,h8⟩:=YR r k J;rw[h8]at I;simp only[Option.some.injEq,Obj.cells.injEq]at I;exact absurd I.2.1 (by decide)⟩
 refine h v' w' h2 U q ?_;rcases G with G|G
 ·exact .inl G
 ·exact .inr fun g O=>by rw[G]at O;simp only[World.alloc,Array.size_push,Option.some.injEq]at O;omega
end Go.Proofs.YthjoojnlnlmljaaGreat
