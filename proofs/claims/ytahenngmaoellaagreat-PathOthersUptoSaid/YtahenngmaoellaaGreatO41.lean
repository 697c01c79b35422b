/- Lemmas. No condition. -/
import Derived.Test.YtahenngmaoellaaGreatO39
import Derived.Test.YtahenngmaoellaaGreatO40
set_option linter.all false
set_option maxRecDepth 100000
set_option maxHeartbeats 0
namespace Go.Proofs.YtahenngmaoellaaGreat
open Go.ChangeShapes Go.WideShapes Go.ChangeAt Go.RowKit Go.Joins Go.Shelf Go.Maps
open Go.Lib (hid)
variable{W w' X w0:World}{B T s n g:Nat}{v:Value}{xs vs:List Value}{ops:Array Oper}{o:Oper}{Q:Exit->Act->World->Prop}{q:List (List (List Int))}{L:List (List Int)}{c:Array Value}{fr:Nat×Nat}
attribute [local go_sem] Oper.semAt_some
def TreeV.digZ (t:TreeV)(kz z1 z2 zs:List Int):List Int:=if t.validE=0 then qC (t.lvlZ kz z1 z2 (t.leafZ kz z1 z2 zs) ((t.rowsOf zs.length).length - 1)) 0 else []
theorem yO {t:TreeV}{total:Nat}(h:t.validE=0)(r:total<=4194304):t.err total=0:=by
 unfold TreeV.err;rw[if_neg (by simp[h]),if_neg ?_];rintro⟨-,q⟩
 have o:1<=t.ln\/t.ln=0:=by omega
 rcases o with o|o
 ·have:=Yy (n:=total) o;omega
 ·rw[o]at q;unfold qP at q;split at q<;>simp at q
theorem Ym {t:TreeV}(h:t.validE=0)(q:0<=t.l/\t.l<=4294967295)(kz z1 z2 zs:List Int):(t.leafZ kz z1 z2 zs).length=lvs zs.length t.ln:=by
 have o:1<=t.ln:=by
  have:=(qn h).2.2.2.2.2.2.2.2.1
  unfold TreeV.ln;omega
 rw[<-zF zs o];exact TreeV.rowZ_length ..
def qkj (t:TreeV)(kz z1 z2 zs:List Int)(w:World)(e:Ending)(w':World):Prop:=
 ∃u,e= .returned (.tuple #[u,.int .i64 t.validE])/\OwnB w.heap.size w' u (t.digZ kz z1 z2 zs)/\Below w.heap.size w w'
theorem qaZ (t:TreeV)(w:World):Calls Tryz.prog 13 #[t.val] w fun e w'=>e= .returned (.int .i64 t.validE)/\Below w.heap.size w w':=by
 obtain⟨G,q⟩:=Ex w.heap.size;have I:=hid (fun W:World=>yS t W);have D:Below G w (w.alloc (.cells t.c 26)):=by rw[<-q];exact Br.alloc Nl _
 have o:=Wn w (.cells t.c 26);rw[q]at o;generalize t.validE=U at*;unfold TreeV.val at*;go_enter Tryz.func13,Tryz.ntmps13
 go_upto_region 1 with(fail)
 generalize w.alloc (.cells t.c 26)=O at*;go_wp2_with (refine L26 G rfl o ?_)
 refine(I.out O).mono ?_;rintro e S ⟨rfl,r⟩;have J:=hid (D.trans (r.mono (by have:=(Ai o).1;omega)));clear o D r;go_wp2
 go_ret
 exact⟨rfl,by rw[q];exact J.out⟩
theorem qgB (t:TreeV)(v:Value)(w:World)(h:t.validE≠0):
  Calls Tryz.prog 19 #[t.val,v] w fun e w'=>e= .returned (.tuple #[.slice none 0 0,.int .i64 t.validE])/\Below w.heap.size w w':=by
 obtain⟨I,q⟩:=Ex w.heap.size;have J:=hid (fun W:World=>qaZ t W);have r:Below I w (w.alloc (.cells t.c 26)):=by rw[<-q];exact Br.alloc Nl _
 have o:=Wn w (.cells t.c 26);rw[q]at o;generalize t.validE=S at*;have U:(S != 0)=true:=by rw[bne_iff_ne];exact h
 clear h;unfold TreeV.val at*;go_enter Tryz.func19,Tryz.ntmps19
 go_upto_region 1 with(fail)
 generalize w.alloc (.cells t.c 26)=O at*;go_wp2_with (refine L26 I rfl o ?_)
 refine(J.out O).mono ?_;rintro e V ⟨rfl,D⟩;have G:=hid (r.trans (D.mono (by have:=(Ai o).1;omega)));clear o r D;go_wp2
 go_ret2
 exact⟨rfl,by rw[q];exact G.out⟩
theorem qhY (t:TreeV)(kz z1 z2 zs:List Int)(v:Value)(w:World)(h:TreeOk t kz z1 z2 w)(hv:Hold w v zs)(hn:zs.length<=4194304):
  Calls Tryz.prog 19 #[t.val,v] w fun e w'=> ∃u,e= .returned (.tuple #[u,.int .i64 0])/\OwnB w.heap.size w' u (qC (t.lvlZ kz z1 z2 (t.leafZ kz z1 z2 zs) ((t.rowsOf zs.length).length - 1)) 0)/\Below w.heap.size w w':=by
 obtain⟨S,o⟩:=Ex w.heap.size;have I:=fun W:World=>qaZ t W
 simp only[h.v]at I;have ag:=hid I;have he:=yO h.v hn;have O:=Qc h.v h.l kz z1 z2 zs;have ad:=Ym h.v h.l kz z1 z2 zs;have X:=hid (fun(W:World) (hb:Below w.heap.size w W)=>qfe t kz z1 z2 zs v w W h he hv hb hn);have Z:=hid (fun(W:World) (x:Value) (hx:ListH W x (t.leafZ kz z1 z2 zs)) (hb:Below w.heap.size w W)=>qgX t kz z1 z2 zs.length (t.leafZ kz z1 z2 zs) x w W h he hx hb ad O.2.2 (by have:=O.2.1;omega) (by omega));have af:=hid (show t.rowZ kz z1 z2 0 false (QH t.ln zs) (QH t.ln zs).length=t.leafZ kz z1 z2 zs from rfl);generalize t.rowZ kz z1 z2 0 false (QH t.ln zs) (QH t.ln zs).length=RZ at*;generalize t.rowC kz z1 z2 0 false (QH t.ln zs) (QH t.ln zs).length=RC at*;generalize t.lvlsC kz z1 z2 (t.leafZ kz z1 z2 zs) ((t.rowsOf zs.length).length - 1)=LC at*;generalize qC (t.lvlZ kz z1 z2 (t.leafZ kz z1 z2 zs) ((t.rowsOf zs.length).length - 1)) 0=Y at*;obtain⟨va,vc,rfl,ah,ai⟩:=hv.slice;have al:IntKind.u64.wrap (zs.length:Int)=(zs.length:Int):=u64_wrap_id _ (by omega) (by omega);have V:Below S w (w.alloc (.cells t.c 26)):=by rw[<-o];exact Br.alloc Nl _
 have q:=Wn w (.cells t.c 26);rw[o]at q;rw[o]at X Z;clear h hv I he O ad;unfold TreeV.val at*;go_enter Tryz.func19,Tryz.ntmps19
 go_upto_region 1 with(fail)
 generalize w.alloc (.cells t.c 26)=wA at*;go_wp2_with (refine L26 S rfl q ?_)
 refine(ag.out wA).mono ?_;rintro e w2 ⟨rfl,J⟩;have r:=qf q J;have U:=V.trans (J.mono (by have:=(Ai q).1;omega));have ac:=hid U;clear q V J U;go_wp2_with (refine L26 S rfl r ?_)
 refine(X.out w2 ac.out).mono ?_;rintro e w3 ⟨cv,u,rfl, -,hu,G⟩;have D:=qf r G;have ak:=(Ai r).1;have aa:=hid (ac.out.trans (G.mono (by omega)));have HU:=hid hu.hold;clear G r hu;go_wp2_with (refine L26 S rfl D ?_)
 refine(Z.out w3 _ (by rw[<-af.out];exact HU.out) aa.out).mono ?_;rintro e w4 ⟨am,y,rfl, -,hy,ab⟩;have aj:=(Ai D).1;have ae:=hid (aa.out.trans (ab.mono (by omega)));have HY:=hid (hy.le (show S<=w3.heap.size by omega));clear ab hy D;go_wp2
 go_ret2
 exact⟨_,rfl,by rw[o];exact HY.out,by rw[o];exact ae.out⟩
theorem qgC (t:TreeV)(kz z1 z2 zs:List Int)(v:Value)(w:World)(G:0<=t.l/\t.l<=4294967295)(I:Hold w (.slice t.ka t.kl t.kc) kz)(J:Hold w (.slice t.sa t.sl t.sc) z1)(r:Hold w (.slice t.pa t.pl t.pc) z2)(O:Hold w v zs)(q:zs.length<=4194304):
  Calls Tryz.prog 19 #[t.val,v] w fun e w'=>qkj t kz z1 z2 zs w e w':=by
 by_cases h:t.validE=0
 ·refine(qhY t kz z1 z2 zs v w ⟨h,G,I,J,r⟩ O q).mono ?_;rintro e w' ⟨u,rfl,D,o⟩
  exact⟨u,by rw[h],by unfold TreeV.digZ;rw[if_pos h];exact D,o⟩
 ·refine(qgB t v w h).mono ?_;rintro e w' ⟨rfl,o⟩
  exact⟨_,rfl,by unfold TreeV.digZ;rw[if_neg h];exact⟨fun _ h=>by simp at h,.inl ⟨rfl,rfl⟩⟩,o⟩
theorem qdJ (h:W.ownsRow B T s v n xs)(J:0<n): ∃g o,v= .slice (some ⟨g,0,none⟩) n o/\B<=g/\g<W.heap.size/\ ∀j u,xs[j]? =some u->W.cell? ⟨g,j,none⟩=some u:=by
 rcases h.2 with⟨-,rfl⟩|⟨g,o,I,rfl,G,r,O,S,U,D⟩
 ·omega
 ·refine⟨g,o,rfl,G,(Ai r).1,fun j u q=>(qd r j).trans ?_⟩;rw[<-D,List.getElem?_take]at q;split at q
  ·rw[<-Array.getElem?_toList];exact q
  ·cases q
theorem qer {P:Program}{J:List Oper}{a:Act}(Y:o.guard=none)(s x:Operand)(t:TypeId)
 (ho:o.op= .call { callee:= .builtin .append,args:= #[s,x],argTypes:= #[t,t] }) (B:Nat) (e:TypeId) (he:e≠5) (i:TypeInfo) (z:Value) (size bytes:Nat) (ht:P.underlying t=some (.slice e)) (hi:P.info? e=some i) (hz:i.zero=some z)
 (S:i.size=size) (ad:i.bytes=bytes) (aa:z.cells.size=size) (ac:0<size) (v:Value) (n:Nat) (xs:List Value) (hs:a.eval s=v) (r:W.ownsRow B e size v n xs)
 (B2:Nat) (y:Value) (m:Nat) (U:List Value) (hx:a.eval x=y) (hy:W.ownsRow B2 e size y m U) (hm:0<m) (h1: ∀u∈U,u.oneCell'=true) (Z:n+m<=maxLen) (I:(n+m)*bytes<=140737488355328) (hB:B<=W.heap.size)
 (h: ∀v' w',w'.ownsRow B e size v' (n+m) (xs++U)->KB B W w'->Spare (fun k=>v.ownBlock≠some k) W w'->(v'.ownBlock=v.ownBlock\/v'.ownBlock=some W.heap.size)->wpList P ops Q J (a.put o.dst v') w'):wpList P ops Q (o::J) a W:=by
 obtain⟨g,G,rfl,ae,af,ab⟩:=qdJ hy hm;refine wpList_append_own_at _ Y s x t ho B e i z size bytes ht hi hz S ad aa ac v n xs hs r ⟨g,0,none⟩ m G U hx hy.1 (fun j u hj=>?_) h1 Z I hB fun v' w' h2 h3 _ V=>?_
 ·rw[Go.WideShapes.add_plain,Nat.zero_add];exact ab j u hj
 have q:Spare (fun k=>v.ownBlock≠some k) W w':=Spare.of_grown h3;refine h v' w' h2 ⟨q.os,q.tape,q.output,q.size,fun k hk=>q.block k (by omega) (fun D=>?_),fun k c O=>?_⟩ q V
 ·rcases r.2 with⟨rfl, -⟩|⟨g,G,X,rfl,h4, -⟩
  ·cases D
  ·simp only[Value.ownBlock,Option.some.injEq]at D;omega
 ·rw[q.block k (Ai O).1 (fun D=>?_)]
  ·exact O
  ·rcases r.2 with⟨rfl, -⟩|⟨g,G,X,rfl, -,V, -⟩
   ·cases D
   ·simp only[Value.ownBlock,Option.some.injEq]at D;subst D;rw[V]at O;simp only[Option.some.injEq,Obj.cells.injEq]at O;exact he O.2.1
def TreeV.outC (t:TreeV)(s:CallS):List Int:=Jz t.big s.bs s.kz s.la s.o s.ds
theorem qbw (t:TreeV)(kz z1 z2:List Int)(row i:Nat)(la rt:Bool)(d:List Int):t.outC (t.callS kz z1 z2 row i la rt d)=t.node kz z1 z2 row i la rt d:=rfl
def RowsV (B:Nat)(w:World)(lv:Value)(vs:List Value)(LL:List (List (List Int))):Prop:=
 w.ownsRow B 67 1 lv LL.length vs/\(∀i,i<LL.length->ListO B w (vs.getD i undef) (LL.getD i []))/\ ∀i j g,i<j->j<LL.length->(vs.getD i undef).ownBlock=some g->(vs.getD j undef).ownBlock≠some g
theorem RowsV.len {w:World}{q:Value}{o:List (List (List Int))}(h:RowsV B w q vs o):vs.length=o.length:=by have:=h.1.1;simpa using this
theorem RowsV.tend {w:World}{o:Value}(h:RowsV B w o vs q)(r: ∀(k:Nat) (c:Array Value),w.heap[k]? =some (.cells c 5 (0,0))->w'.heap[k]? =some (.cells c 5 (0,0)))
  (D: ∀g,o.ownBlock=some g->w'.heap[g]? =w.heap[g]?) (G: ∀i g,i<q.length->(vs.getD i undef).ownBlock=some g->w'.heap[g]? =w.heap[g]?):RowsV B w' o vs q:=
 ⟨ya h.1 D,fun i hi=>(h.2.1 i hi).tend r (fun g I=>G i g hi I),h.2.2⟩
theorem Yv {w:World}(q:w.ownsRow B T s v n xs): ∀g,v.ownBlock=some g->B<=g:=by
 intro g o;rcases q.2 with⟨rfl, -⟩|⟨G,D,r,rfl,I, -, -⟩
 ·cases o
 ·simp only[Value.ownBlock,Option.some.injEq]at o;omega
theorem Y5 {w:World}(q:w.ownsRow B T s v n xs): ∀g,v.ownBlock=some g-> ∃c,w.heap[g]? =some (.cells c T (0,0)):=by
 intro g o;rcases q.2 with⟨rfl, -⟩|⟨I,G,D,rfl, -,r, -⟩
 ·cases o
 ·simp only[Value.ownBlock,Option.some.injEq]at o;subst o;exact⟨_,r⟩
theorem ListO.row {w:World}(h:ListO B w v L): ∃vs,w.ownsRow B 24 1 v L.length vs:=by
 obtain⟨vs,o, -⟩:=h;exact⟨vs,o⟩
theorem zE {α:Type}(L:List α)(k i:Nat)(x d:α)(o:k<L.length):(L.set k x).getD i d=if k=i then x else L.getD i d:=by
 simp only[Lg,List.getElem?_set];by_cases h:k=i
 ·subst h;simp[o]
 ·simp[h]
theorem RowsV.snoc {w:World}{S r:Value}(h:RowsV B w S vs q)(U:w'.ownsRow B 67 1 r (q.length+1) (vs++[.slice none 0 0]))(V:KB B w w')(J:Spare (fun k=>S.ownBlock≠some k) w w'):RowsV B w' r (vs++[.slice none 0 0]) (q++[[]]):=by
 have G:=h.len;refine⟨by simpa using U,fun i hi=>?_,fun i j g I X D=>?_⟩
 ·simp only[List.length_append,List.length_singleton]at hi;rw[qX,qX,G];by_cases o:i<q.length
  ·rw[if_pos o,if_pos o];obtain⟨xs,O⟩:=(h.2.1 i o).row;exact(h.2.1 i o).kb V (Yt h.1 O (by decide) J)
  ·rw[if_neg o,if_neg o,if_pos (by omega),if_pos (by omega)];exact ListO.nil _ _
 ·simp only[List.length_append,List.length_singleton]at X;rw[qX,G]at D⊢;by_cases o:j<q.length
  ·rw[if_pos (by omega)]at D;rw[if_pos o];exact h.2.2 i j g I o D
  ·rw[if_neg o,if_pos (by omega)];intro e;cases e
theorem Tend.of_below (F:Nat->Prop){w:World}(o:Below w.heap.size w w'):Tend F w w':=⟨Spare.of_below _ o,(KB.of_below o (Nat.zero_le _)).bytes⟩
theorem qi4 (q:W.ownsRow B T s v n xs)(I:T≠5)(h:W.grownBy w' v.ownBlock)(J:B<=W.heap.size):KB B W w'/\Spare (fun k=>v.ownBlock≠some k) W w':=by
 have o:Spare (fun k=>v.ownBlock≠some k) W w':=Spare.of_grown h;refine⟨⟨o.os,o.tape,o.output,o.size,fun k O=>o.block k (by omega) (fun D=>by have:=Yv q k D;omega),fun k c r=>?_⟩,o⟩;rw[o.block k (Ai r).1 (fun D=>?_)]
 ·exact r
 ·obtain⟨c2,G⟩:=Y5 q k D;rw[G]at r;simp only[Option.some.injEq,Obj.cells.injEq]at r;exact I r.2.1
theorem J4 {w:World}{c2:Array Value}{T q:TypeId}{r:Nat×Nat}(h:w.heap[g]? =some (.cells c T fr))(D:T≠q): ∀k,w.heap[k]? =some (.cells c2 q r)->k≠g:=by
 rintro k o rfl
 rw[h]at o;simp only[Option.some.injEq,Obj.cells.injEq]at o;exact D o.2.1
theorem Yu {w:World}{o:TypeId}(q:w.ownsRow B T s v n xs)(h:w.heap[g]? =some (.cells c o fr))(D:o≠T): ∀k,v.ownBlock=some k->k≠g:=fun k r=>by
 obtain⟨c2,G⟩:=Y5 q k r;exact J4 h D k G
theorem ListO.off {w:World}{T:TypeId}(h:ListO B w v L)(r:w.heap[g]? =some (.cells c T fr))(D:T≠24)(I:T≠5)(q: ∀k,k≠g->X.heap[k]? =w.heap[k]?):ListO B X v L:=by
 obtain⟨xs,G⟩:=h.row;exact h.tend (fun k c o=>by rw[q k (J4 r I k o)];exact o) (fun k o=>q k (Yu G r D k o))
theorem RowsV.off {w:World}{D:Value}{T:TypeId}(h:RowsV B w D vs q)(r:w.heap[g]? =some (.cells c T fr))(J:T≠67)(O:T≠24)(I:T≠5)(o: ∀k,k≠g->X.heap[k]? =w.heap[k]?):RowsV B X D vs q:=
 ⟨ya h.1 (fun k G=>o k (Yu h.1 r J k G)),fun i hi=>(h.2.1 i hi).off r O I o,h.2.2⟩
theorem RowsV.put {q G:Nat}{w w1:World}{o:List (List (List Int))}{CO:List (List Int)}{X:List Int}{x:Value}(h:RowsV B w (.slice (some ⟨q,0,none⟩) n G) vs (o++[CO]))(h1:ListO B w1 x (CO++[X]))(r:KB B w w1)(V:Spare (fun k=>(vs.getD o.length undef).ownBlock≠some k) w w1)
  (aa:x.ownBlock=(vs.getD o.length undef).ownBlock\/ ∀g,x.ownBlock=some g->w.heap.size<=g):RowsV B (w1.setCell ⟨q,o.length,none⟩ x) (.slice (some ⟨q,0,none⟩) n G) (vs.set o.length x) (o++[CO++[X]]):=by
 have hl:=h.len;simp only[List.length_append,List.length_singleton]at hl;obtain⟨ho,hx,hd⟩:=h;have O:=hx o.length (by simp);obtain⟨xs,ab⟩:=O.row;rcases ho.2 with⟨e, -⟩|⟨g,ac,S,e,p1,p2,p3,p4,p5,p6⟩
 ·cases e
 simp only[Value.slice.injEq,Option.some.injEq,Addr.mk.injEq,and_true]at e;obtain⟨rfl,rfl,rfl⟩:=e;have q2:w1.heap[q]? =some (.cells S 67 (0,0)):=(V.block q (Ai p2).1 (fun e=>Yu ab p2 (by decide) q e rfl)).trans p2;have hX: ∀k,k≠q->(w1.setCell ⟨q,o.length,none⟩ x).heap[k]? =w1.heap[k]? :=fun k r=>heap_setCell_other _ _ _ _ r
 refine⟨⟨by simp[hl],.inr ⟨q,G,_,by simp,p1,heap_setCell_same _ q o.length S _ x q2,by simpa using p3,p4,by simpa using p5,?_⟩⟩,fun i hi=>?_,fun i j g U hj I=>?_⟩
 ·rw[<-p6,Array.toList_setIfInBounds,List.take_set];simp
 ·rw[zE _ _ _ _ _ (by omega)];simp only[List.length_append,List.length_singleton]at hi;by_cases Y:o.length=i
  ·subst Y;rw[if_pos rfl,qX,if_neg (by omega),if_pos rfl];exact h1.off q2 (by decide) (by decide) hX
  ·rw[if_neg Y,qX,if_pos (by omega)];have D:=hx i (by simp;omega);rw[qX,if_pos (by omega)]at D;obtain⟨ys,J⟩:=D.row;exact(D.kb r (fun k r=>V.block k (qT J k r) (fun e=>hd i o.length k (by omega) (by simp) r e))).off q2 (by decide) (by decide) hX
 ·rw[zE _ _ _ _ _ (by omega)]at I⊢;simp only[List.length_append,List.length_singleton]at hj;rw[if_neg (by omega)]at I;by_cases Z:o.length=j
  ·subst Z;rw[if_pos rfl];have D:=hx i (by simp;omega);obtain⟨ys,J⟩:=D.row;have h5:=qT J g I;rcases aa with h4|h4
   ·rw[h4];exact hd i o.length g U (by simp) I
   ·intro e;have:=h4 g e;omega
  ·rw[if_neg Z];exact hd i j g U (by simp;omega) I
def TreeV.accL (t:TreeV)(done:List (List CallS))(cur:List CallS):List (List (List Int)):=done.map (·.map t.outC)++(if cur.isEmpty then [] else [cur.map t.outC])
def qkc (t:TreeV)(w0:World)(bl:Nat)(done:List (List CallS))(cur:List CallS)(F:Nat->Prop)(w:World):Prop:=
 ∃lv vs,w.heap[bl]? =some (.cells #[lv] 70 (0,0))/\w0.heap.size<=bl/\RowsV w0.heap.size w lv vs (t.accL done cur)/\ ∀k,F k↔k=bl\/lv.ownBlock=some k\/ ∃i,i<(t.accL done cur).length/\(vs.getD i undef).ownBlock=some k
theorem qhk {t:TreeV}{w:World}{I:Nat}{q:List (List CallS)}{D:List CallS}{F:Nat->Prop}(h:qkc t w0 I q D F w): ∀k,F k->w0.heap.size<=k/\k<w.heap.size:=by
 obtain⟨U,vs,J,O,r,S⟩:=h;intro k o;rcases(S k).1 o with rfl|o|⟨i,hi,o⟩
 ·exact⟨O,(Ai J).1⟩
 ·exact⟨Yv r.1 k o,qT r.1 k o⟩
 ·obtain⟨xs,G⟩:=(r.2.1 i hi).row;exact⟨Yv G k o,qT G k o⟩
theorem qjo (t:TreeV)(o:List (List CallS))(q:List CallS)(s:CallS):t.accL o (q++[s])=o.map (·.map t.outC)++[q.map t.outC++[t.outC s]]:=by
 unfold TreeV.accL;rw[if_neg (by simp)];simp
theorem qcx (t:TreeV)(o:List (List CallS)):t.accL o []=o.map (·.map t.outC):=by simp[TreeV.accL]
theorem qal (t:TreeV)(o:List (List CallS)){q:List CallS}(h:q≠[]):t.accL o q=o.map (·.map t.outC)++[q.map t.outC]:=by
 unfold TreeV.accL;rw[if_neg (by simpa using h)]
theorem qif (t:TreeV)(o:List (List CallS)){q:List CallS}(r:q≠[]):t.accL (o++[q]) []=t.accL o q:=by
 rw[qcx,qal t o r,List.map_append];rfl
theorem qci:(Tryz.prog.info? 67).map (fun i=>(i.zero,i.size,i.bytes))=some (some (.slice none 0 0),1,24):=by kernel_rfl
theorem qcG {r:List Oper}{D:Act}{w:World}(U:o.guard=none)(x:Operand)(O:o.op= .buildSlice 70 1 #[(0,x)])(a:Option Addr)(n k:Nat)(S:D.eval x= .slice a n k)
  (h:wpList Tryz.prog ops Q r (D.put o.dst (.slice (some ⟨w.heap.size,0,none⟩) 1 1)) (w.alloc (.cells #[.slice a n k] 67))):wpList Tryz.prog ops Q (o::r) D w:=by
 obtain⟨J,G,I,q, -⟩:=info_parts qci;exact wpList_buildSlice U 70 67 1 _ O #[.slice a n k] J _ Tryz.underlying70 G I (by rw[q];decide) (by rw[q];decide) (by rw[q,show Array.range (1*1)= #[0] by decide];simp[S,Instr.fill,Value.cells]) h
theorem qgE (args:Array Value)(W:World):(callFunc 117 args).run Tryz.prog W= .ok (.enter 117 args) W:=by
 simp[callFunc,Tryz.func117,Tryz.f117]
theorem qc6 {t:TreeV}{kz z1 z2:List Int}(hT:TreeOk t kz z1 z2 w0)(r:Nat):Seer t kz z1 z2 w0 117 r (qkc t w0 r):=by
 refine⟨fun h=>qhk h,fun h hb hF hB=>?_,fun hc h=>?_,fun h bi hr hi b8 cb hw a4 bs bc hd=>?_⟩
 ·obtain⟨lv,vs,h1,h2,h3,h4⟩:=h;exact⟨lv,vs,by rw[hF r ((h4 r).2 (.inl rfl))];exact h1,h2,h3.tend hB (fun g V=>hF g ((h4 g).2 (.inr (.inl V)))) (fun i g hi V=>hF g ((h4 g).2 (.inr (.inr ⟨i,hi,V⟩)))),h4⟩
 ·obtain⟨lv,vs,h1,h2,h3,h4⟩:=h;rw[<-qif t _ hc]at h3 h4;exact⟨lv,vs,h1,h2,h3,h4⟩
 ·rename_i J O F w row i la rt d bv kv dv;have bT:=qhk h;obtain⟨lv,vs,h1,h2,h3,h4⟩:=h;obtain⟨b0,aa⟩:=Ex w.heap.size;have cG:r<w.heap.size:=(Ai h1).1;have cc:w0.heap.size<=b0:=by have:=hw.size;omega
  obtain⟨a1,n1,c1,rfl⟩:=qr a4;obtain⟨a2,n2,c2,rfl⟩:=qr bs;obtain⟨a3,c3,rfl, -, -⟩:=bc.hold.slice;obtain⟨ah,ab,ai,rfl⟩:=qr h3.1;have bR:ab=(t.accL J O).length:=by
   rcases h3.1.2 with⟨e,e2⟩|⟨g,b6,O,e, -⟩
   ·simp only[Value.slice.injEq]at e;omega
   ·simp only[Value.slice.injEq]at e;omega
  have a5:Below b0 w (w.alloc (.cells #[.int .i64 t.k,.slice a1 n1 c1,.slice a2 n2 c2,.bool la,.int .i64 (t.outN rt),.slice a3 d.length c3] 73)):=by rw[<-aa];exact Br.alloc Nl _
  have aM:=Wn w (.cells #[.int .i64 t.k,.slice a1 n1 c1,.slice a2 n2 c2,.bool la,.int .i64 (t.outN rt),.slice a3 d.length c3] 73);rw[aa]at aM;have bZ:=aa▸a5;obtain⟨ND,bq⟩:=Ex (t.node kz z1 z2 row i la rt d);have bg:=fun(W:World) (hb:Below b0 w W)=>qjU hT (row:=row) (at_:=i) hr (by omega) la rt d (.slice a3 d.length c3) (.slice a1 n1 c1) (.slice a2 n2 c2) W _ (qi a4 (fun g _ g2=>hb.block g (by omega))) (qi bs (fun g _ g2=>hb.block g (by omega))) (bc.hold.below (aa▸hb)) hd
  rw[bq]at bg⊢;have bA:=hid bg;have bb:=hid (qjo t J O (t.callS kz z1 z2 row i la rt d));rw[qbw,bq]at bb;have H3:=hid h3;have H4:=hid h4;have cK:=hid bT;have bm:=hid a5;have bu:=hid h1;have be:=hid (show(J.map (·.map t.outC)).length=row by rw[List.length_map];exact bi);have cq:=hid (show(O.map t.outC).length<=8388608 by rw[List.length_map];exact cb);have bt:=hid bR;clear h1 h3 h4 bT a4 bs bc b8 a5 bZ hd hw hT bg bq bi bR;unfold Yf;go_enter Tryz.func117,Tryz.ntmps117
  go_upto_region 1 with(fail)
  generalize w.alloc (.cells #[.int .i64 t.k,.slice a1 n1 c1,.slice a2 n2 c2,.bool la,.int .i64 (t.outN rt),.slice a3 d.length c3] 73)=wA at*;have cM:b0<wA.heap.size:=(Ai aM).1;go_wp2_with (refine L73 b0 rfl aM ?_)
  refine(bA.out wA bm.out).mono ?_;rintro e w9 ⟨u,rfl,hu,a9⟩;obtain⟨u1,u3,rfl, -, -⟩:=hu.hold.slice;have ag:=hid (bm.out.trans (a9.mono (by omega)));have HU:=hid (hu.le (show b0<=wA.heap.size by omega));have af:=hid ((ag.out.block r (by omega)).trans bu.out);have bU:=a9.size;have bW:=KB.of_below (aa▸ag.out) (Nat.zero_le _);have aK:=hid (H3.out.tend bW.bytes (fun g V=>ag.out.block g (by have:=qT H3.out.1 g V;omega)) (fun i g hi V=>ag.out.block g (by
   obtain⟨xs,hx⟩:=(H3.out.2.1 i hi).row;have:=qT hx g V;omega)))
  clear hu a9 aM bW bm bu H3 bA;have l9:w9.cell? ⟨r,0,none⟩=some (.slice ah ab ai):=qd af.out 0;have s9:r<w9.heap.size:=by omega
  have f9:=frozen_of_row w9 r 0 _ _ af.out;obtain⟨il,cl,b9,cA,ch⟩:=info_parts qci;have ck: ∃q:Bool,(O=[]↔q=true)/\(((row:Nat):Int)==(ab:Int))=q:=by
   refine⟨_,?_,rfl⟩;rw[beq_iff_eq,bt.out];by_cases hc:O=[]
   ·subst hc;rw[qcx,be.out];simp
   ·rw[qal t J hc,List.length_append,be.out];simp only[hc,false_iff,List.length_singleton];omega
  obtain⟨q,hq,bC⟩:=ck;have HQ:=hid hq;clear hq;have aR:=be.out;generalize bk:J.map (·.map t.outC)=DO at*;generalize aU:O.map t.outC=CO at*;have Z: ∀k,(k=r\/(Value.slice ah ab ai).ownBlock=some k\/ ∃i,i<(t.accL J O).length/\(vs.getD i undef).ownBlock=some k)->F k:=fun k o=>(H4.out k).2 o
  clear H4 bt
  cases q
  case' false=>
   have aA:O≠[]:=fun e=>by have:=HQ.out.1 e;cases this
   have am:=qal t J aA;rw[bk,aU]at am;have HV:=aK.out;rw[am]at HV Z;have bP: ∀k,(k=r\/(Value.slice ah ab ai).ownBlock=some k\/ ∃i,i<(DO++[CO]).length/\(vs.getD i undef).ownBlock=some k)->F k\/b0<=k:=fun k o=> .inl (Z k o)
   have aj:=hid HV;have ak:=hid bP;have ae:=hid (Tend.of_below F (aa▸ag.out));have aC:=hid af.out;have br:=hid HU.out;clear HV Z bP am aK af HU ag f9;go_upto_region 4 with(fail)
   clear l9;obtain⟨X,hX⟩:=Ex w9;have cF:b0<=X.heap.size:=by rw[<-hX];omega
   have au:r<X.heap.size:=by rw[<-hX];omega
   clear bU s9;subst hX;rename World=>X
   generalize ah=av at*;generalize ab=nv at*;generalize ai=cv at*;generalize vs=aL at*
  case' true=>
   have aA:O=[]:=HQ.out.2 rfl;have am:t.accL J O=DO:=by rw[aA,qcx,bk]
   have bd:CO=[]:=by rw[<-aU,aA];rfl
   have HV:=aK.out;rw[am]at HV Z;have ap:Below w9.heap.size w9 (w9.alloc (.cells #[.slice none 0 0] 67)):=Br.alloc Nl _;have bn:=KB.of_below ap (Nat.zero_le _);have bQ:=HV.tend bn.bytes (fun g V=>ap.block g (qT HV.1 g V)) (fun i g hi V=>ap.block g (by obtain⟨xs,hx⟩:=(HV.2.1 i hi).row;exact qT hx g V));have bV:=Wn w9 (.cells #[.slice none 0 0] 67);have aD:(w9.alloc (.cells #[.slice none 0 0] 67)).ownsRow w0.heap.size 67 1 (.slice (some ⟨w9.heap.size,0,none⟩) 1 1) 1 [.slice none 0 0]:=⟨rfl,.inr ⟨_,1,_,rfl,by omega,bV,by decide,by decide,rfl,rfl⟩⟩;obtain⟨bN,aP⟩:=Ex w9.heap.size;rw[show Value.slice (some ⟨w9.heap.size,0,none⟩) 1 1=Value.slice (some ⟨bN,0,none⟩) 1 1 by rw[aP]]at aD;have cD:(w9.alloc (.cells #[.slice none 0 0] 67)).heap.size=bN+1:=by rw[<-aP];simp
   have ax:=hid bQ;have aY:=hid aD;have aX:=(ap.block r s9).trans af.out;have aF:=hid aX;have bH:(Value.slice ah ab ai).ownBlock≠some r:=fun e=>Yu ax.out.1 aF.out (by decide) r e rfl
   have a7:=hid (ag.out.trans (ap.mono (by omega)));have bz:=hid (HU.out.kb bn);clear bQ aD aX ap bn bV HV;go_upto_region 4 with(first|((with_reducible show wpList _ _ _ (Oper.mk _ (Op.buildSlice _ _ _) _ _ _ _::_) _ _);refine qcG rfl _ rfl none 0 0 rfl ?_;rw[aP];generalize w9.alloc (.cells #[.slice none 0 0] 67)=wB at*)|(at_builtin;refine qer rfl _ _ _ rfl w0.heap.size 67 (by decide) il (.slice none 0 0) 1 24 Tryz.underlying70 cl b9 cA ch rfl (by decide) (.slice ah ab ai) DO.length vs rfl ax.out.1 w0.heap.size (.slice (some ⟨bN,0,none⟩) 1 1) 1 [.slice none 0 0] rfl aY.out (by omega) (by simp[Value.oneCell']) (by unfold maxLen;omega) (by omega) (by omega) ?_;intro v' w' aw aq ad ba;have ac:=(ad.block r (by omega) bH).trans aF.out;obtain⟨av,nv,cv,rfl⟩:=qr aw;have cE:w'.cell? ⟨r,0,none⟩=some (.slice ah ab ai):=qd ac 0;have cx:=frozen_of_row w' r 0 _ _ ac;have cf:r<w'.heap.size:=(Ai ac).1))
   refine qm ?_;intro X hX;have aI: ∀k,k≠r->X.heap[k]? =w'.heap[k]? :=fun k o=>by rw[hX];exact heap_setCell_other _ _ _ _ o
   have bI:RowsV w0.heap.size w' (.slice av nv cv) (vs++[.slice none 0 0]) (DO++[CO]):=by rw[bd];exact RowsV.snoc ax.out aw aq ad
   have cz:=aq.size;have cF:b0<=X.heap.size:=by rw[hX];simp[World.setCell];omega
   have au:r<X.heap.size:=by rw[hX];simp[World.setCell];omega
   have aj:=hid (bI.off ac (by decide) (by decide) (by decide) aI);have aC:=hid (show X.heap[r]? =some (.cells #[.slice av nv cv] 70 (0,0)) by rw[hX];exact heap_setCell_same _ r 0 _ _ _ ac);have aG: ∀(k:Nat) (c:Array Value),wB.heap[k]? =some (.cells c 5 (0,0))->X.heap[k]? =some (.cells c 5 (0,0)):=fun k c h=>by
    have h2:=aq.bytes k c h;rw[aI k (J4 ac (by decide) k h2)];exact h2
   have br:=hid (bz.out.tend aG);have ae:=hid (show Tend F w X from⟨by
    refine(Spare.of_below (fun k=> ¬F k) (aa▸a7.out)).trans (T:=fun k=>k≠r/\(Value.slice ah ab ai).ownBlock≠some k) ?_ (fun k _ o=>⟨fun e=>o (Z k (.inl e)),fun e=>o (Z k (.inr (.inl e)))⟩);refine⟨by rw[hX];exact ad.os,by rw[hX];exact ad.tape,by rw[hX];exact ad.output,by rw[hX];simp[World.setCell];omega,fun k o hs=>?_⟩;exact(aI k hs.1).trans (ad.block k o hs.2),fun k c h=>aG k c ((KB.of_below (aa▸a7.out) (Nat.zero_le _)).bytes k c h)⟩)
   have az:=ax.out.len;have ak:=hid (show ∀k,(k=r\/(Value.slice av nv cv).ownBlock=some k\/ ∃i,i<(DO++[CO]).length/\((vs++[Value.slice none 0 0]).getD i undef).ownBlock=some k)->F k\/b0<=k from fun k o=>by
    rcases o with o|o|⟨i,hi,o⟩
    ·exact .inl (Z k (.inl o))
    ·rcases ba with h|h
     ·rw[h]at o;exact .inl (Z k (.inr (.inl o)))
     ·rw[h]at o;simp only[Option.some.injEq]at o;exact .inr (by omega)
    ·rw[qX,az]at o;simp only[List.length_append,List.length_singleton]at hi;by_cases al:i<DO.length
     ·rw[if_pos al]at o;exact .inl (Z k (.inr (.inr ⟨i,al,o⟩)))
     ·rw[if_neg al,if_pos (by omega)]at o;cases o)
   generalize vs++[.slice none 0 0]=aL at*;clear hX aI bI cz aG aw aq ad ba ac cE cx cf bH az bd aA am aF ax aY a7 bz aK af HU ag f9 l9 Z bU s9 cD aP
  all_goals
   obtain⟨ib,ci,cw,cp,cm⟩:=info_parts Yn;obtain⟨G,b6,e, -,aV,bK⟩:=qdJ aj.out.1 (by simp);simp only[Value.slice.injEq]at e;obtain⟨rfl,rfl,rfl⟩:=e;have az:=aj.out.len;have aN:=aj.out.2.1 DO.length (by simp);rw[qX,if_neg (by omega),if_pos rfl]at aN;obtain⟨rv,aJ⟩:=Ex (aL.getD DO.length undef);have aZ:X.cell? ⟨G,DO.length,none⟩=some rv:=bK _ _ (by
    rw[<-aJ,Lg,List.getElem?_eq_getElem (by rw[az];simp)];rfl)
   obtain⟨cr,aW⟩:=Y5 aj.out.1 G rfl;rw[aJ]at aN;obtain⟨xs,an,bF⟩:=id aN;obtain⟨ra,rn,rc,rfl⟩:=qr an;have ct:xs.length=CO.length:=by have:=an.1;simpa using this
   have cd:r≠G:=fun e=>Yu aj.out.1 aC.out (by decide) G rfl e.symm
   have bG:(Value.slice ra rn rc).ownBlock≠some r:=fun e=>Yu an aC.out (by decide) r e rfl
   have bw:(Value.slice ra rn rc).ownBlock≠some G:=fun e=>Yu an aW (by decide) G e rfl
   have hN:(DO++[CO]).length=row+1:=by simp[aR]
   rw[aR]at aZ;generalize aS:(DO++[CO]).length=N at*;have cO:(row:Int)<(N:Int):=by omega
   have cN:(N:Int)<=9223372036854775807:=by omega
   have HN:=hid hN;have cI:CO.length<=8388608:=cq.out;clear hN;have bD:=hid an;have b7:=hid bF;have cy:=hid aZ;have bp:=hid aW;have aO:=hid aJ;have bJ:=hid bG;have bx:=hid bw;have aT:=hid aR;have bL:=hid aS;clear an bF aZ aW aJ bG bw aR bK aN aS az bk aU;have U: ∀(W:World) (f:Bool),((f=false->Below X.heap.size X W)/\(f=true->Spare (fun k=>(Value.slice ra rn rc).ownBlock≠some k) X W/\KB w0.heap.size X W))->W.cell? ⟨r,0,none⟩=some (.slice (some ⟨G,0,none⟩) N cv)/\W.cell? ⟨G,row,none⟩=some (.slice ra rn rc)/\X.heap.size<=W.heap.size:=fun W f I=>by
    have h1:W.heap[r]? =X.heap[r]? /\W.heap[G]? =X.heap[G]? /\X.heap.size<=W.heap.size:=by
     cases f
     ·exact⟨(I.1 rfl).block r au,(I.1 rfl).block G aV,(I.1 rfl).size⟩
     ·exact⟨(I.2 rfl).1.block r au bJ.out,(I.2 rfl).1.block G aV bx.out,(I.2 rfl).1.size⟩
    refine⟨qd (h1.1.trans aC.out) 0,?_,h1.2.2⟩;have:=cy.out
    rw[qd bp.out row]at this;rw[qd (h1.2.1.trans bp.out) row];exact this
   refine YA (n:=9) (fun f W=>(f=false->Below X.heap.size X W)/\(f=true->Spare (fun k=>(Value.slice ra rn rc).ownBlock≠some k) X W/\KB w0.heap.size X W)) 8 [.v 20 (.slice (some ⟨G,0,none⟩) N cv),.v 21 (.int .i64 row),.v 22 (.slice (some ⟨G,0,none⟩) N cv),.v 23 (.int .i64 row),.z 24 G row,.v 25 (.slice ra rn rc),.v 26 (.slice u1 ND.length u3),.p 27 (fun u W=> ∃q,u= .slice (some ⟨q,0,none⟩) 1 1/\X.heap.size<=q/\W.heap[q]? =some (.cells #[.slice u1 ND.length u3] 24 (0,0))),.p 28 (fun u W=>ListO w0.heap.size W u (CO++[ND])/\(u.ownBlock=(Value.slice ra rn rc).ownBlock\/ ∀g,u.ownBlock=some g->X.heap.size<=g))] (by exact⟨(fun _ _ hb _ h=>by obtain⟨q,e,h1,h2⟩:=h;exact⟨q,e,h1,qf h2 hb⟩),(fun _ _ hb u h=>⟨h.1.below hb,h.2⟩),trivial⟩) ⟨fun _=>Br.drew,fun h=>(by cases h)⟩ (fun f W W' h hb=>⟨fun e=>(h.1 e).trans (hb.mono (h.1 e).size),fun e=>⟨(h.2 e).1.trans (Spare.of_below _ hb) (fun _ _ h=>h),(h.2 e).2.trans (KB.of_below hb (by have:=(h.2 e).1.size;omega))⟩⟩) ?_ ?_ ?_
   ·repeat' (with_reducible first|exact qz|refine qx ?_ ?_)
    all_goals try
     refine .inr ?_;intro A x W f hA I hf S D K hK;have a1:=hA.2 1 (by decide);conv at a1=>rhs;whnf
     have a2:=hA.2 2 (by decide);conv at a2=>rhs;whnf
     have a6:=hA.2 6 (by decide);conv at a6=>rhs;whnf
     simp only[QS,yc]at D;have y0:=(U W f I).1;have y1:=(U W f I).2.1;have y2:=(U W f I).2.2;have y3:r<W.heap.size:=by omega
     have y4:G<W.heap.size:=by omega
     clear S hA;go_simp
     exact hK _ _ BR rfl
    any_goals exact .inl rfl
    all_goals refine .inr ?_
    intro A x W f hA I hf S _ K hK;have cu:=gw hA S 6 26;clear S hA;have cH:A.tmps[26]?.getD undef= .slice u1 ND.length u3:=by rw[<-Lh];exact cu
    go_simp
    exact hK _ _ (Br.alloc Nl _) ⟨W.heap.size,rfl,(U W f I).2.2,Wn W _⟩
   ·intro A x W hA I S K hK;have co:=gw hA S 5 25;have ce:(fun u W=> ∃q,u= .slice (some ⟨q,0,none⟩) 1 1/\X.heap.size<=q/\W.heap[q]? =some (.cells #[.slice u1 ND.length u3] 24 (0,0))) (x 27) W:=S ⟨7,.data⟩ (by simp) rfl;have cB:A.tmps.getD 27 undef=x 27:=hA.1 27 (by decide);clear S hA;have hB:=I.1 rfl;have ho:=qi bD.out (fun g _ V=>hB.block g V);obtain⟨qb,eq,cL,bC⟩:=ce;refine YX _ _ 67 rfl w0.heap.size 24 ib (.slice none 0 0) 24 Tryz.underlying67 ci cw cp cm rfl (.slice ra rn rc) CO.length xs co ho (.slice (some ⟨qb,0,none⟩) 1 1) 1 [.slice u1 ND.length u3] (cB.trans eq) ⟨rfl,by simp[Value.oneCell'],.inr ⟨⟨qb,0,none⟩,1,rfl,jU bC⟩⟩ (by unfold maxLen;omega) (by omega) (by have:=hB.size;omega) ?_;intro v' w' k1 k2 k3;obtain⟨k4,k5⟩:=qi4 ho (by decide) k2 (by have:=hB.size;omega);have ca: ∀k,(Value.slice ra rn rc).ownBlock=some k->k<X.heap.size:=fun k o=>qT bD.out k o
    have k6:ListO w0.heap.size w' v' (CO++[ND]):=ListO.snoc (w:=W) (vs:=xs) (x:= .slice u1 ND.length u3) (fun i hi=>(b7.out i hi).kb (KB.of_below hB (Nat.zero_le _))) ct ((br.out.kb (KB.of_below hB (Nat.zero_le _))).le cc) k1 k4;refine hK v' w' (fun h=>by cases h) ⟨fun h=>(by cases h),fun _=>⟨(Spare.of_below _ hB).trans k5 (fun _ _ h=>h),(KB.of_below hB (by omega)).trans k4⟩⟩ ⟨.inr (fun _ h=>h),.inr (fun _ h=>h),.inr (fun _ h=>h),.inr (fun _ h=>h),.inr (fun _ h=>h),.inr (fun _ h=>h),.inr (fun _ h=>h),.inr (fun u h=>by obtain⟨q,e,j1,j2⟩:=h;exact⟨q,e,j1,(k5.block q (Ai j2).1 (fun e2=>by have:=ca q e2;omega)).trans j2⟩),.inl rfl,trivial⟩ ⟨k6,?_⟩;rcases k3 with k3|k3
    ·exact .inl k3
    ·refine .inr fun g V=>?_
     rw[k3]at V;cases V;exact hB.size
   intro x W I b3;obtain⟨-,ao, -⟩:=b3;change (fun u W=>ListO w0.heap.size W u (CO++[ND])/\(u.ownBlock=(Value.slice ra rn rc).ownBlock\/ ∀g,u.ownBlock=some g->X.heap.size<=g)) (x 28) W at ao
   obtain⟨y0,y1,y2⟩:=U W true I;obtain⟨aB,bf⟩:=I.2 rfl;obtain⟨aQ,ar⟩:=ao;obtain⟨ys,bM⟩:=aQ.row;obtain⟨a8,n8,c8,ao⟩:=qr bM;rw[ao]at aQ ar;refine qt ?_;simp only[QG,Act.put,Ls,ao];have aH:=RowsV.put (w1:=W) (x:= .slice a8 n8 c8) aj.out aQ bf (by rw[aO.out];exact aB) (by rw[aO.out];exact ar);rw[aT.out]at aH;have aE:W.heap[G]? =some (.cells cr 67 (0,0)):=(aB.block G aV bx.out).trans bp.out;have bh:W.heap[r]? =some (.cells #[.slice (some ⟨G,0,none⟩) N cv] 70 (0,0)):=(aB.block r au bJ.out).trans aC.out;have cn:W.frozen? ⟨G,row,none⟩=false:=frozen_of_row W G row _ _ aE;have y4:G<W.heap.size:=by omega
   have bY:=hid aH;have b5:=hid aE;have b4:=hid bh;have ay:=hid aB;have cg:=hid bf;have cC:=hid ar;generalize x 27=cJ;clear aH aE bh aB bf ar bM aQ ao I U y0;go_wp2_with fail
   refine qt ?_;go_wp2_with fail
   refine qw ?_;have bo: ∀k,k≠G->(W.setCell ⟨G,row,none⟩ (.slice a8 n8 c8)).heap[k]? =W.heap[k]? :=fun k o=>heap_setCell_other _ _ _ _ o
   have bS:(W.setCell ⟨G,row,none⟩ (.slice a8 n8 c8)).heap.size=W.heap.size:=by simp[World.setCell]
   have bO: ∀(k:Nat) (c:Array Value),X.heap[k]? =some (.cells c 5 (0,0))->(W.setCell ⟨G,row,none⟩ (.slice a8 n8 c8)).heap[k]? =some (.cells c 5 (0,0)):=fun k c h=>by
    have h3:=cg.out.bytes k c h;rw[bo k (J4 b5.out (by decide) k h3)];exact h3
   have bX:=hid bO;have bE:=hid bo;have cj:=hid bS;have bj:=hid (show(W.setCell ⟨G,row,none⟩ (.slice a8 n8 c8)).os=w.os/\(W.setCell ⟨G,row,none⟩ (.slice a8 n8 c8)).tape=w.tape/\(W.setCell ⟨G,row,none⟩ (.slice a8 n8 c8)).output=w.output from⟨ay.out.os.trans ae.out.sp.os,ay.out.tape.trans ae.out.sp.tape,ay.out.output.trans ae.out.sp.output⟩);clear bO bo bS cn y1 y2 y4;generalize W.setCell ⟨G,row,none⟩ (.slice a8 n8 c8)=Y at*;go_wp2
   go_ret
   have aS:=bL.out;simp only[List.length_append,List.length_singleton]at aS;have cP:aL.length=N:=by have:=aj.out.len;rw[bL.out]at this;exact this
   refine⟨_,fun k=>k=r\/(Value.slice (some ⟨G,0,none⟩) N cv).ownBlock=some k\/ ∃i,i<(DO++[CO++[ND]]).length/\((aL.set row (.slice a8 n8 c8)).getD i undef).ownBlock=some k,rfl,by rw[aa];exact br.out.tend bX.out,?_,⟨_,_,(bE.out r cd).trans b4.out,h2,by rw[bb.out];exact bY.out,fun k=>by rw[bb.out]⟩,?_,fun k c h=>bX.out k c (ae.out.bytes k c h)⟩
   ·rw[aa];rintro k (o|o|⟨i,hi,o⟩)
    ·exact ak.out k (.inl o)
    ·exact ak.out k (.inr (.inl o))
    ·simp only[List.length_append,List.length_singleton]at hi;rw[zE _ _ _ _ _ (by omega)]at o;by_cases al:row=i
     ·rw[if_pos al]at o;rcases cC.out with h|h
      ·rw[h]at o;exact ak.out k (.inr (.inr ⟨row,by omega,by rw[<-aT.out,aO.out];exact o⟩))
      ·exact .inr (by have:=h k o;omega)
     ·rw[if_neg al]at o;exact ak.out k (.inr (.inr ⟨i,by omega,o⟩))
   ·refine ae.out.sp.trans (T:=fun k=>k≠G/\(Value.slice ra rn rc).ownBlock≠some k) ⟨bj.out.1.trans ae.out.sp.os.symm,bj.out.2.1.trans ae.out.sp.tape.symm,bj.out.2.2.trans ae.out.sp.output.symm,by rw[cj.out];exact ay.out.size,fun k o hs=>(bE.out k hs.1).trans (ay.out.block k o hs.2)⟩ (fun k o hF=>⟨fun e=>?_,fun e=>?_⟩)
    ·rcases ak.out k (.inr (.inl (by rw[e];rfl)))with h|h
     ·exact hF h
     ·omega
    ·rcases ak.out k (.inr (.inr ⟨row,by omega,by rw[<-aT.out,aO.out];exact e⟩))with h|h
     ·exact hF h
     ·omega
theorem qcY (t:TreeV)(kz z1 z2 zs:List Int){m i:Nat}(h:i<m):(t.allC kz z1 z2 zs m).getD i []=t.callsR kz z1 z2 zs i:=by simp[TreeV.allC,Lg,h]
theorem qaW {t:TreeV}(h:t.validE=0)(o:0<=t.l/\t.l<=4294967295)(kz z1 z2 zs:List Int)(r:Nat):1<=(t.callsR kz z1 z2 zs r).length/\(t.callsR kz z1 z2 zs r).length<=zs.length+1:=by
 have:=ZD h o kz z1 z2 zs r
 unfold TreeV.callsR;rw[qV];exact⟨this.1,this.2.1⟩
theorem RowsV.nil (B:Nat)(w:World):RowsV B w (.slice none 0 0) [] []:=⟨Wo _ _ _ _,fun i hi=>by simp at hi,fun i j g _ o=>by simp at o⟩
theorem RowsV.le {b:Nat}{w:World}{q:Value}{r:List (List (List Int))}(h:RowsV B w q vs r)(o:b<=B):RowsV b w q vs r:=⟨ownsRow_le h.1 o,fun i hi=>(h.2.1 i hi).le o,h.2.2⟩
theorem qiu (t:TreeV)(v:Value)(w:World)(h:t.validE≠0):
  Calls Tryz.prog 73 #[t.val,v] w fun e w'=>e= .returned (.tuple #[.slice none 0 0,.int .i64 t.validE])/\Below w.heap.size w w':=by
 obtain⟨G,q⟩:=Ex w.heap.size;have I:=hid (YR t);have D:Below G w (w.alloc (.cells t.c 26)):=by rw[<-q];exact Br.alloc Nl _
 have o:=Wn w (.cells t.c 26);rw[q]at o;generalize t.validE=O at*;have V:(O != 0)=true:=by rw[bne_iff_ne];exact h
 clear h;unfold TreeV.val at*;go_enter Tryz.func73,Tryz.ntmps73
 go_upto_region 1 with(fail)
 generalize w.alloc (.cells t.c 26)=S at*;go_wp2_with (refine L26 G rfl o ?_)
 refine(I.out S).mono ?_;rintro e U ⟨rfl,r⟩;have J:=hid (D.trans (r.mono (by have:=(Ai o).1;omega)));clear o D r;go_wp2
 go_ret2
 exact⟨rfl,by rw[q];exact J.out⟩
theorem qiw (t:TreeV)(kz z1 z2 zs:List Int)(v:Value)(w:World)(h:TreeOk t kz z1 z2 w)(hv:Hold w v zs)(hn:zs.length<=4194304):
  Calls Tryz.prog 73 #[t.val,v] w fun e w'=> ∃u,e= .returned (.tuple #[u,.int .i64 0])/\(∃R,t.topAt kz z1 z2 (t.leafZ kz z1 z2 zs) R/\ ∃vs,RowsV w.heap.size w' u vs (t.accL (t.allC kz z1 z2 zs R) (t.callsR kz z1 z2 zs R)))/\Below w.heap.size w w':=by
 obtain⟨I,J⟩:=Ex w.heap.size;have ah:=YR t;simp only[h.v]at ah;have aF:=hid ah;have HT:=hid h;have ax:=hid (fun(W:World) (hb:Below I w W)=>qku t h.v h.l zs v W (hv.below (J▸hb)) (by omega));have an:=hid (fun(q:Nat) (W:World) (x:Value) (F0:Nat->Prop) (hw:Below w.heap.size w W) (hI:qkc t w q [] [] F0 W) (hx:ListO w.heap.size W x (QH t.ln zs)) (Y: ∀g,x.ownBlock=some g-> ¬F0 g)=>qit (qc6 h q) h hn x W F0 hw hI hx Y qgE);obtain⟨va,vc,rfl, -, -⟩:=hv.slice;have al:Below I w (w.alloc (.cells t.c 26)):=by rw[<-J];exact Br.alloc Nl _
 have U:=Wn w (.cells t.c 26);rw[J]at U;generalize aC:QH t.ln zs=CZ at*;clear h hv ah aC;unfold TreeV.val at*;go_enter Tryz.func73,Tryz.ntmps73
 go_upto_region 1 with(fail)
 generalize w.alloc (.cells t.c 26)=wA at*;go_wp2_with (refine L26 I rfl U ?_)
 refine(aF.out wA).mono ?_;rintro e w2 ⟨rfl,ai⟩;have ak:=qf U ai;have ao:=al.trans (ai.mono (by have:=(Ai U).1;omega));have av:=hid ao;have aM:I<w2.heap.size:=(Ai ak).1;clear U al ai ao;go_upto_region 5 with(fail)
 refine qm ?_;intro V hV;obtain⟨q,aa⟩:=Ex w2.heap.size;have ab:V.heap[q]? =some (.cells #[.slice none 0 0] 70 (0,0)):=by rw[hV,<-aa];exact Wn _ _
 have af:Below q w2 V:=by rw[hV,<-aa];exact Br.alloc Nl _
 have ad:V.heap[I]? =some (.cells t.c 26 (0,0)):=(af.block I (by omega)).trans ak;have am:=hid (av.out.trans (af.mono (by omega)));have aE:q<V.heap.size:=(Ai ab).1;have ac:qkc t w q [] [] (fun k=>k=q) V:=⟨.slice none 0 0,[],ab,by omega,RowsV.nil _ _,fun k=>⟨fun h=> .inl h,fun h=>by
  rcases h with h|h|⟨i,hi,h⟩
  ·exact h
  ·cases h
  ·simp[TreeV.accL]at hi⟩⟩
 have ae:=hid ac;rw[aa];have aH:I<q:=by omega
 clear hV af ak aa ab ac;refine qE (n:=5) (w0:=V) (B:=V.heap.size) [.v 13 (.agg t.c),.v 14 (.agg t.c),.v 15 (.slice va zs.length vc),.p 16 (fun u W=>ListO V.heap.size W u CZ),.v 17 (.func (.func 117) #[] #[.pointer (some ⟨q,0,none⟩)])] (by exact⟨(fun _ _ _ h hb=>ListO.below h hb),trivial⟩) Br.drew Nl ?_ ?_
 ·repeat' (with_reducible first|exact qz|refine qx ?_ ?_)
  ·intro AA x W r G O o D K S;have a2:=r.2 2 (by decide);conv at a2=>rhs;whnf
   clear o r;exact wp_load_row 26 _ rfl I a2 _ _ _ _ (qf ad G) Tryz.underlying26 rfl (by kernel_rfl) (S _ _ Br rfl)
  ·intro AA x W r G O o D K S;have a2:=r.2 2 (by decide);conv at a2=>rhs;whnf
   clear o r;exact wp_load_row 26 _ rfl I a2 _ _ _ _ (qf ad G) Tryz.underlying26 rfl (by kernel_rfl) (S _ _ Br rfl)
  ·intro AA x W r G O o D K S;have a1:=r.2 1 (by decide);conv at a1=>rhs;whnf
   clear o r;go_simp
   exact S _ _ Br rfl
  ·intro AA x W r G O o _ K S;have aL:=gv r o 1 14;have aK:=gv r o 2 15;clear o r;go_simp
   refine(ax.out W (am.out.trans (G.mono (by omega)))).mono ?_;rintro e w5 ⟨u,rfl,ho,ay⟩;exact S _ _ ay (ho.le O)
  ·intro AA x W r G O o D K S;have a7:=r.2 7 (by decide);conv at a7=>rhs;whnf
   clear o r;go_simp
   exact S _ _ Br rfl
 intro x W G O aq;obtain⟨Z, -⟩:=aq;change (fun u W=>ListO V.heap.size W u CZ) (x 16) W at Z
 refine qt ?_;simp only[QG,Act.put,Ls];generalize x 16=X at*;have Y: ∀g,X.ownBlock=some g-> ¬g=q:=fun g hg e=>by
  obtain⟨vs,ho, -⟩:=Z;rcases ho.2 with⟨rfl, -⟩|⟨g2,aI,aJ,rfl,h5, -⟩
  ·cases hg
  ·simp only[Value.ownBlock,Option.some.injEq]at hg;omega
 have aj:=am.out.trans (G.mono (by omega));have hk:=KB.of_below G (Nat.zero_le _);have ag:=(qc6 HT.out q).keep ae.out (G.mono (by omega)) (fun k hk=>G.block k (by rw[show k=q from hk];exact aE)) hk.bytes;have HR:=hid (an.out q W X (fun k=>k=q) (by rw[J];exact aj) ag (by rw[J];exact Z.le (by omega)) Y);have au:=hid aj;have aG:q<W.heap.size:=by have:=G.size;omega
 clear Z Y aj hk ag an ae ad;go_wp2_with fail
 refine HR.out.mono ?_;rintro e w6 ⟨rfl,⟨R,F',hR,hI, -⟩,ap, -⟩;go_wp2_with fail
 refine qw ?_;obtain⟨lv,vs,l1,l2,l3, -⟩:=hI;obtain⟨az,aA,aD,rfl⟩:=qr l3.1;have c0:w6.cell? ⟨q,0,none⟩=some (.slice az aA aD):=qd l1 0;have s0:q<w6.heap.size:=(Ai l1).1;have aB:=hid l3;have aw:=hid ap;have ar:=hid hR;clear l1 l3 ap hR;go_wp2
 go_ret2
 exact⟨_,rfl,⟨R,ar.out,_,aB.out⟩,(show Below w.heap.size w W by rw[J];exact au.out).trans aw.out⟩
def TreeV.rowsZ (t:TreeV)(kz z1 z2 zs:List Int):List (List (List Int)):=if t.validE=0 then(t.allC kz z1 z2 zs ((t.rowsOf zs.length).length - 1+1)).map (·.map t.outC) else []
theorem qiv (t:TreeV)(kz z1 z2 zs:List Int)(v:Value)(w:World)(o:0<=t.l/\t.l<=4294967295)(I:Hold w (.slice t.ka t.kl t.kc) kz)(O:Hold w (.slice t.sa t.sl t.sc) z1)(G:Hold w (.slice t.pa t.pl t.pc) z2)(V:Hold w v zs)(D:zs.length<=4194304):
  Calls Tryz.prog 73 #[t.val,v] w fun e w'=> ∃u vs,e= .returned (.tuple #[u,.int .i64 t.validE])/\RowsV w.heap.size w' u vs (t.rowsZ kz z1 z2 zs)/\Below w.heap.size w w':=by
 unfold TreeV.rowsZ;by_cases h:t.validE=0
 ·refine(qiw t kz z1 z2 zs v w ⟨h,o,I,O,G⟩ V D).mono ?_;rintro e w' ⟨u,rfl,⟨R,S,vs,q⟩,r⟩
  have U:=Qc h o kz z1 z2 zs;have J:=qeu (yO h D) kz z1 z2 (Ym h o kz z1 z2 zs) U.2.2;rw[qbu S J]at q;refine⟨u,vs,by rw[h],?_,r⟩;rw[if_pos h,TreeV.allC_succ,List.map_append];rw[qal t _ (List.length_pos_iff.1 (qaW h o kz z1 z2 zs _).1)]at q;exact q
 ·refine(qiu t v w h).mono ?_;rintro e w' ⟨rfl,r⟩
  exact⟨_,[],rfl,by rw[if_neg h];exact RowsV.nil _ _,r⟩
