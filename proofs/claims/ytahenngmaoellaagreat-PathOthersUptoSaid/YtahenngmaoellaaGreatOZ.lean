/- The law. No condition. -/
import Derived.Test.YtahenngmaoellaaGreatO46
import Derived.Test.YtahenngmaoellaaGreatO13
set_option linter.all false
set_option maxRecDepth 100000
set_option maxHeartbeats 0
namespace Go.Proofs.YtahenngmaoellaaGreat
open Go.ChangeShapes Go.WideShapes Go.ChangeAt Go.RowKit Go.Joins Go.Shelf Go.Maps
open Go.Lib (hid)
variable{B b g:Nat}{W:World}{v:Value}{L:List (List Int)}{ds vs:List Value}{z:List Int}{c:Array Value}{T:TypeId}{fr:Nat×Nat}{LL:List (List (List Int))}
attribute [local go_sem] Oper.semAt_some
def DigV (B:Nat)(W:World)(v:Value)(L:List (List Int))(ds:List Value):Prop:=
 W.ownsRow B 24 1 v L.length ds/\ ∀j,j<L.length->OwnB B W (ds.getD j undef) (qC L j)
def dgV (DS:List (List Value))(a i:Nat):Value:=(DS.getD a []).getD i undef
theorem DigV.len (h:DigV B W v L ds):ds.length=L.length:=by have:=h.1.1;simpa using this
theorem DigV.keep {W':World}(h:DigV B W v L ds)(k:KB b W W')(o: ∀g,v.ownBlock=some g->W'.heap[g]? =W.heap[g]?):DigV B W' v L ds:=
 ⟨ya h.1 o,fun j q=>(h.2 j q).kb k⟩
theorem qg8 (h:OwnB B W v z): ∀g,v.ownBlock=some g->B<=g/\g<W.heap.size:=fun g o=>by
 exact qfo h.2 g o
structure ListsV (B:Nat)(W:World)(xs:List Value)(LL:List (List (List Int)))(DS:List (List Value)):Prop where
 lx:xs.length=LL.length
 ld:DS.length=LL.length
 each: ∀a,a<LL.length->DigV B W (xs.getD a undef) (LL.getD a []) (DS.getD a [])
 ax: ∀a b g,a≠b->(xs.getD a undef).ownBlock=some g->(xs.getD b undef).ownBlock≠some g
 ad: ∀a i b j g,(a≠b\/i≠j)->(dgV DS a i).ownBlock=some g->(dgV DS b j).ownBlock≠some g
namespace ListsV
variable {B:Nat} {W W':World} {xs:List Value} {LL:List (List (List Int))} {DS:List (List Value)}
theorem xlt (h:ListsV B W xs LL DS): ∀a g,(xs.getD a undef).ownBlock=some g->B<=g/\g<W.heap.size:=fun a g o=>by
 by_cases q:a<LL.length
 ·exact⟨Yv (h.each a q).1 g o,qT (h.each a q).1 g o⟩
 ·rw[Lg,List.getElem?_eq_none (by have:=h.lx;omega)]at o
  cases o
theorem dlt (h:ListsV B W xs LL DS): ∀a i g,(dgV DS a i).ownBlock=some g->B<=g/\g<W.heap.size:=fun a i g o=>by
 unfold dgV at o;by_cases q:a<LL.length
 ·by_cases hi:i<(LL.getD a []).length
  ·exact qg8 ((h.each a q).2 i hi) g o
  ·rw[Lg (l:=DS.getD a []),List.getElem?_eq_none (by rw[(h.each a q).len];omega)]at o
   cases o
 ·rw[Lg (l:=DS),List.getElem?_eq_none (by have:=h.ld;omega)]at o;simp at o
  cases o
theorem keep (h:ListsV B W xs LL DS)(k:KB b W W')(o: ∀a g,(xs.getD a undef).ownBlock=some g->W'.heap[g]? =W.heap[g]?):ListsV B W' xs LL DS:=
 ⟨h.lx,h.ld,fun a q=>(h.each a q).keep k (o a),h.ax,h.ad⟩
theorem below (h:ListsV B W xs LL DS)(o:Below W.heap.size W W'):ListsV B W' xs LL DS:=
 h.keep (KB.of_below o (Nat.zero_le _)) fun a g q=>o.block g (h.xlt a g q).2
theorem off (h:ListsV B W xs LL DS)(r:W.heap[g]? =some (.cells c T fr))(D:T≠24)(I:T≠5)(q:But g W W'):ListsV B W' xs LL DS:=
 h.keep (KB.of_but q (Nat.zero_le _) (Nat.zero_le _) r I) fun a k o=>by
  refine q.block k (h.xlt a k o).2 ?_;by_cases G:a<LL.length
  ·exact Yu (h.each a G).1 r D k o
  ·rw[Lg,List.getElem?_eq_none (by have:=h.lx;omega)]at o
   cases o
theorem xoff (h:ListsV B W xs LL DS)(D:W.heap[g]? =some (.cells c T fr))(q:T≠24): ∀a k,(xs.getD a undef).ownBlock=some k->k≠g:=fun a k o=>by
 by_cases r:a<LL.length
 ·exact Yu (h.each a r).1 D q k o
 ·rw[Lg,List.getElem?_eq_none (by have:=h.lx;omega)]at o
  cases o
theorem nil (B:Nat)(W:World):ListsV B W [] [] []:=⟨rfl,rfl,(fun a q=>by simp at q),(fun a b g _ o=>by rw[show([]:List Value).getD a undef=undef from rfl]at o;cases o),(fun a i b j g _ o=>by rw[show dgV [] a i=undef from rfl]at o;cases o)⟩
theorem le (h:ListsV B W xs LL DS)(q:b<=B):ListsV b W xs LL DS:=⟨h.lx,h.ld,fun a o=>⟨ownsRow_le (h.each a o).1 q,fun j r=>((h.each a o).2 j r).le q⟩,h.ax,h.ad⟩
theorem more (h:ListsV B W xs LL DS):ListsV B W (xs++[Value.slice none 0 0]) (LL++[[]]) (DS++[[]]):=by
 have J: ∀a,((xs++[Value.slice none 0 0]).getD a undef).ownBlock=(xs.getD a undef).ownBlock:=fun a=>by
  rw[qX];split
  ·rfl
  ·rw[Lg,List.getElem?_eq_none (by omega)];split<;>rfl
 have G: ∀a,(DS++[[]]).getD a []=DS.getD a []:=fun a=>by
  rw[qX];split
  ·rfl
  ·rw[Lg,List.getElem?_eq_none (by omega)];split<;>rfl
 have D: ∀a i,dgV (DS++[[]]) a i=dgV DS a i:=fun a i=>by unfold dgV;rw[G]
 refine⟨by simp[h.lx],by simp[h.ld],fun a S=>?_,fun a b g r o=>?_,fun a i b j g r o=>?_⟩
 ·rw[G,qX,qX];by_cases q:a<LL.length
  ·rw[if_pos q,if_pos (by rw[h.lx];exact q)];exact h.each a q
  ·have O:a=LL.length:=by simp at S;omega
   subst O;rw[if_neg q,if_pos rfl,if_neg (by rw[h.lx];exact q),if_pos h.lx.symm,Lg,List.getElem?_eq_none (by have:=h.ld;omega)];exact⟨Wo _ _ _ _,fun j I=>by simp at I⟩
 ·rw[J]at o⊢;exact h.ax a b g r o
 ·rw[D]at o⊢;exact h.ad a i b j g r o
theorem put {a:Nat}{v' x:Value}(h:ListsV B W xs LL DS)(V:a<LL.length)(hn:W'.ownsRow B 24 1 v' ((LL.getD a []).length+1) (DS.getD a []++[x]))(hz:OwnB B W x z)(hk:KB B W W')(ab:Spare (fun k=>(xs.getD a undef).ownBlock≠some k) W W')
  (r:v'.ownBlock=(xs.getD a undef).ownBlock\/ ∀g,v'.ownBlock=some g->W.heap.size<=g) (O: ∀g,x.ownBlock=some g-> ∀b j,(dgV DS b j).ownBlock≠some g):ListsV B W' (xs.set a v') (LL.set a (LL.getD a []++[z])) (DS.set a (DS.getD a []++[x])):=by
 have hl:=(h.each a V).len;have Z:a<xs.length:=by rw[h.lx];exact V
 have Y:a<DS.length:=by rw[h.ld];exact V
 have aa: ∀b i,dgV (DS.set a (DS.getD a []++[x])) b i=if a=b/\i=(DS.getD a []).length then x else dgV DS b i:=fun b i=>by
  unfold dgV;rw[zE _ _ _ _ _ Y];by_cases o:a=b
  ·subst o;rw[if_pos rfl,qX];by_cases D:i<(DS.getD a []).length
   ·rw[if_pos D,if_neg (fun e=>by omega)]
   ·rw[if_neg D];by_cases J:i=(DS.getD a []).length
    ·rw[if_pos J,if_pos ⟨rfl,J⟩]
    ·rw[if_neg J,if_neg (fun e=>J e.2),Lg (l:=DS.getD a []),List.getElem?_eq_none (by omega)];rfl
  ·rw[if_neg o,if_neg (fun e=>o e.1)]
 refine⟨by simp[h.lx],by simp[h.ld],fun b hb=>?_,fun b c g I G=>?_,fun b i c j g I G=>?_⟩
 ·rw[List.length_set]at hb;rw[zE _ _ _ _ _ Z,zE _ _ _ _ _ V,zE _ _ _ _ _ Y];by_cases o:a=b
  ·subst o;rw[if_pos rfl,if_pos rfl,if_pos rfl];refine⟨by rw[List.length_append,List.length_singleton];exact hn,fun j hj=>?_⟩;rw[List.length_append,List.length_singleton]at hj;unfold qC;rw[qX,qX,hl];by_cases D:j<(LL.getD a []).length
   ·rw[if_pos D,if_pos D];exact((h.each a V).2 j D).kb hk
   ·rw[if_neg D,if_neg D,if_pos (by omega),if_pos (by omega)];exact hz.kb hk
  ·rw[if_neg o,if_neg o,if_neg o];refine(h.each b hb).keep hk fun g G=>ab.block g (h.xlt b g G).2 fun e=>h.ax a b g o e G
 ·have key: ∀e g,((xs.set a v').getD e undef).ownBlock=some g->(a=e/\v'.ownBlock=some g)\/(a≠e/\(xs.getD e undef).ownBlock=some g):=fun e g U=>by
   rw[zE _ _ _ _ _ Z]at U;by_cases o:a=e
   ·rw[if_pos o]at U;exact .inl ⟨o,U⟩
   ·rw[if_neg o]at U;exact .inr ⟨o,U⟩
  intro hc;rcases key b g G with⟨rfl,X⟩|⟨X,k2⟩<;>rcases key c g hc with⟨rfl,S⟩|⟨S,k4⟩
  ·exact I rfl
  ·rcases r with r|r
   ·rw[r]at X;exact h.ax a c g S X k4
   ·have:=r g X;have:=(h.xlt c g k4).2;omega
  ·rcases r with r|r
   ·rw[r]at S;exact h.ax a b g X S k2
   ·have:=r g S;have:=(h.xlt b g k2).2;omega
  ·exact h.ax b c g I k2 k4
 ·rw[aa]at G⊢;by_cases D:a=b/\i=(DS.getD a []).length
  ·rw[if_pos D]at G;rw[if_neg (fun e=>by rcases I with q|q;exact q (D.1.symm.trans e.1);exact q (D.2.trans e.2.symm))];exact O g G c j
  ·rw[if_neg D]at G;by_cases J:a=c/\j=(DS.getD a []).length
   ·rw[if_pos J];exact fun e=>O g e b i G
   ·rw[if_neg J];exact h.ad b i c j g I G
end ListsV
theorem RowsV.formP {w:World}(h:RowsV B w v vs LL): ∃a c,v= .slice a LL.length c/\(LL.length:Int)<=9223372036854775807:=by
 rcases h.1.2 with⟨rfl,e⟩|⟨g,r,q,rfl, -, -,D,o, -⟩
 ·exact⟨none,0,by rw[e],by omega⟩
 ·exact⟨_,_,rfl,by unfold maxLen at o;omega⟩
theorem RowsV.getP {i:Nat}{w:World}{q:Value}(h:RowsV B w q vs LL)(hi:i<LL.length): ∃g o,q= .slice (some ⟨g,0,none⟩) LL.length o/\g<w.heap.size/\w.cell? ⟨g,i,none⟩=some (vs.getD i undef):=by
 obtain⟨g,o,e, -,D,r⟩:=qdJ h.1 (by omega);refine⟨g,o,e,D,r i _ ?_⟩;have:=h.len
 rw[Lg,List.getElem?_eq_getElem (by omega)];rfl
theorem JS {ops:Array Oper}{G:List Oper}{o:Oper}{a:Act}{Q:Exit->Act->World->Prop}(O:o.guard=none)(s x:Operand)
  (ho:o.op= .call { callee:= .builtin .append,args:= #[s,x],argTypes:= #[67,67] }) (B:Nat) (v:Value) (n:Nat) (ds:List Value) (u:Value) (hs:a.eval s=v) (r:W.ownsRow B 24 1 v n ds) (hu:u.oneCell'=true)
  (hx:a.eval x= .slice (some ⟨W.heap.size,0,none⟩) 1 1) (aa:n<=8388608) (hB:B<=W.heap.size)
  (h: ∀v' w',w'.ownsRow B 24 1 v' (n+1) (ds++[u])->KB B W w'->Spare (fun k=>v.ownBlock≠some k) W w'->(v'.ownBlock=v.ownBlock\/ ∀g,v'.ownBlock=some g->W.heap.size<=g)->wpList Tryz.prog ops Q G (a.put o.dst v') w'):wpList Tryz.prog ops Q (o::G) a (W.alloc (.cells #[u] 24)):=by
 obtain⟨ib,Z,U,Y,S⟩:=info_parts Yn;refine wpList_append_own_at _ O s x _ ho B 24 ib (.slice none 0 0) 1 24 Tryz.underlying67 Z U Y S rfl (by decide) v n ds hs (r.alloc _) ⟨W.heap.size,0,none⟩ 1 1 [u] hx rfl (cell_one_new W u _) (by simpa using hu) (by unfold maxLen;omega) (by omega) (by simp;omega) fun v' w' h2 h3 _ D=>?_
 have q:Spare (fun k=>v.ownBlock≠some k) W w':=(Spare.of_below _ (Br.alloc Nl _)).trans (Spare.of_grown h3) (fun _ _ h=>h);have X:KB B W w':=⟨q.os,q.tape,q.output,q.size,fun k hk=>q.block k (by omega) (fun J=>by have:=Yv r k J;omega),fun k c I=>by
   rw[q.block k (Ai I).1 (fun J=>?_)]
   ·exact I
   ·obtain⟨c2,h8⟩:=Y5 r k J;rw[h8]at I;simp only[Option.some.injEq,Obj.cells.injEq]at I;exact absurd I.2.1 (by decide)⟩
 refine h v' w' h2 X q ?_;rcases D with D|D
 ·exact .inl D
 ·exact .inr fun g V=>by rw[D]at V;simp only[World.alloc,Array.size_push,Option.some.injEq]at V;omega
end Go.Proofs.YtahenngmaoellaaGreat
namespace Go.Proofs.YtahenngmaoellaaGreat
open Go.ChangeShapes Go.WideShapes Go.ChangeAt Go.RowKit Go.Joins Go.Shelf Go.Maps
open Go.Lib (hid)
variable{k leaf:Nat}
theorem qc7 (L:List (List Int)): ∀k,k<=L.length->qL L k=(L.take k).flatten
 | 0,_=>rfl
 | k+1,h=>by
  have e:Qs L k=qC L k:=rfl;rw[jT (by omega),qL,qc7 L k (by omega),e]
theorem qeE (L:List (List Int)):qL L L.length=L.flatten:=by rw[qc7 L _ Nl,List.take_length]
def TreeV.stepZ (t:TreeV)(kz z1 z2 zs:List Int)(leaf k:Nat):Qd:=
 (((t.lvlZ kz z1 z2 (t.leafZ kz z1 z2 zs) k).drop (qu t zs.length leaf (k+1)).frm).take (Qg t.fn (t.rowsOf zs.length) leaf k - (qu t zs.length leaf (k+1)).frm),
  ((t.lvlZ kz z1 z2 (t.leafZ kz z1 z2 zs) k).drop (Qg t.fn (t.rowsOf zs.length) leaf k+1)).take ((qu t zs.length leaf (k+1)).to_ - Qg t.fn (t.rowsOf zs.length) leaf k - 1))
def TreeV.stepsZ (t:TreeV)(kz z1 z2 zs:List Int)(leaf m:Nat):List Qd:=(List.range m).map (t.stepZ kz z1 z2 zs leaf)
theorem zM (t:TreeV)(kz z1 z2 zs:List Int)(leaf:Nat){m:Nat}(h:k<m):qy (t.stepsZ kz z1 z2 zs leaf m) k=t.stepZ kz z1 z2 zs leaf k:=by
 unfold qy TreeV.stepsZ;rw[Lg,List.getElem?_map,List.getElem?_range h];rfl
theorem QN (t:TreeV)(kz z1 z2 zs:List Int)(leaf m:Nat):(t.stepsZ kz z1 z2 zs leaf m).length=m:=by simp[TreeV.stepsZ]
theorem qiX {X Y:List (List Int)}{a at_ b:Nat}(I:a<=at_)(O:at_<b)(J:b<=Y.length)(h: ∀k,k≠at_->X[k]? =Y[k]?):
  ((X.drop a).take (at_ - a)).flatten++qC Y at_++((X.drop (at_+1)).take (b - at_ - 1)).flatten=((Y.drop a).take (b - a)).flatten:=by
 have o:(X.drop a).take (at_ - a)=(Y.drop a).take (at_ - a):=by
  refine List.ext_getElem? fun j=>?_
  rw[List.getElem?_take,List.getElem?_take];split
  ·rw[List.getElem?_drop,List.getElem?_drop,h _ (by omega)]
  ·rfl
 have G:(X.drop (at_+1)).take (b - at_ - 1)=(Y.drop (at_+1)).take (b - at_ - 1):=by
  refine List.ext_getElem? fun j=>?_
  rw[List.getElem?_take,List.getElem?_take];split
  ·rw[List.getElem?_drop,List.getElem?_drop,h _ (by omega)]
  ·rfl
 have D:(Y.drop a).take (b - a)=(Y.drop a).take (at_ - a)++(qC Y at_::(Y.drop (at_+1)).take (b - at_ - 1)):=by
  have q:b - a=(at_ - a)+(b - at_):=by omega
  have r:b - at_=(b - at_ - 1)+1:=by omega
  rw[q,List.take_add,List.drop_drop,show a+(at_ - a)=at_ by omega,List.drop_eq_getElem_cons (show at_<Y.length by omega),r,List.take_succ_cons];simp only[Nat.add_sub_cancel];congr 2
  unfold qC;rw[Lg,List.getElem?_eq_getElem (by omega)];rfl
 rw[o,G,D,List.flatten_append,List.flatten_cons,List.append_assoc]
theorem qcX {t:TreeV}(h:t.validE=0)(hl:0<=t.l/\t.l<=4294967295)(kz z1 z2 zs o:List Int)(ar:o.length=zs.length)(hn:zs.length<=4194304)(I:leaf<nth (t.rowsOf zs.length) 0)
  (hs: ∀k,k≠leaf->qC (QH t.ln o) k=qC (QH t.ln zs) k) (m:Nat) (hm:(t.rowsOf zs.length).length=m+1): ∀r,r<(t.rowsOf zs.length).length->
  (t.lvlZ kz z1 z2 (t.leafZ kz z1 z2 o) r).length=(t.lvlZ kz z1 z2 (t.leafZ kz z1 z2 zs) r).length/\
  (∀k,k≠Qg t.fn (t.rowsOf zs.length) leaf r->(t.lvlZ kz z1 z2 (t.leafZ kz z1 z2 zs) r)[k]? =(t.lvlZ kz z1 z2 (t.leafZ kz z1 z2 o) r)[k]?)/\
  t.pathR kz z1 z2 zs.length leaf (t.stepsZ kz z1 z2 zs leaf m) (qC (QH t.ln o) leaf) r=qC (t.lvlZ kz z1 z2 (t.leafZ kz z1 z2 o) r) (Qg t.fn (t.rowsOf zs.length) leaf r):=by
 have he:=yO h hn;have S:=qG he;have ao:=Qc h hl kz z1 z2 zs;have Y:=Qc h hl kz z1 z2 o;have ah:1<=t.ln:=by
  have:=(qn h).2.2.2.2.2.2.2.2.1
  unfold TreeV.ln;omega
 have ae:=zF o ah;have ax:=zF zs ah;have am:=Ym h hl kz z1 z2 zs;have ab:=Ym h hl kz z1 z2 o;rw[ar]at ae ab;have ad: ∀{L M:List (List Int)},L.length=M.length-> ∀{i:Nat},qC L i=qC M i->L[i]? =M[i]? :=by
  intro L M aC i hi;by_cases hc:i<L.length
  ·unfold qC at hi;rw[Lg,Lg,List.getElem?_eq_getElem hc,List.getElem?_eq_getElem (by omega)]at hi;rw[List.getElem?_eq_getElem hc,List.getElem?_eq_getElem (by omega)];exact congrArg some hi
  ·rw[List.getElem?_eq_none (by omega),List.getElem?_eq_none (by omega)]
 intro r;induction r with
 | zero=>
  intro hr;refine⟨by show(t.leafZ kz z1 z2 o).length=(t.leafZ kz z1 z2 zs).length;omega,fun k hk=>?_,?_⟩
  ·refine ad (by show(t.leafZ kz z1 z2 zs).length=(t.leafZ kz z1 z2 o).length;omega) ?_;show qC (t.leafZ kz z1 z2 zs) k=qC (t.leafZ kz z1 z2 o) k
   unfold TreeV.leafZ;by_cases hc:k<(QH t.ln zs).length
   ·rw[yP _ _ _ _ _ _ _ hc,yP _ _ _ _ _ _ _ (by omega),hs k hk,ae,ax]
   ·unfold qC;rw[Lg,Lg,List.getElem?_eq_none (by rw[TreeV.rowZ_length];omega),List.getElem?_eq_none (by rw[TreeV.rowZ_length];omega)]
  ·show t.giveZ kz z1 z2 (qu t zs.length leaf 0) (qC (QH t.ln o) leaf)=qC (t.leafZ kz z1 z2 o) leaf
   have ai:=I;rw[S.first]at ai;unfold TreeV.leafZ;rw[yP _ _ _ _ _ _ _ (by omega),ae];unfold qu Qg TreeV.giveZ;have ag: ¬(1<=0/\nth (t.rowsOf zs.length) 0=1):=by omega
   by_cases h2:leaf=nth (t.rowsOf zs.length) 0 - 1
   ·rw[Ys ag h2];rw[S.first]at h2;rw[decide_eq_true (by omega)]
   ·rw[YT ag h2];rw[S.first]at h2;rw[decide_eq_false (by omega)]
 | succ r ih=>
  intro hr;obtain⟨i1,i2,i3⟩:=ih (by omega);have hA:=Yc S I (r+1) hr;have af:=qaO S hr (Yc S I r (by omega));have aB:=QL he kz z1 z2 am ao.2.2;have ay:=QL he kz z1 z2 ab Y.2.2;obtain⟨J,q⟩:=Ex (t.lvlZ kz z1 z2 (t.leafZ kz z1 z2 o) r);obtain⟨Z,U⟩:=Ex (t.lvlZ kz z1 z2 (t.leafZ kz z1 z2 zs) r);have X:=ay r (by omega);have V:=zc h (row:=r+1) (by omega) (L:=J) (by rw[<-q];exact(Qo h kz z1 z2 Y.1 Y.2.2 r).1);have aw:=S.next r hr;rw[q]at X;rw[X,<-aw]at V;obtain⟨D,hD⟩:=Ex (t.upZ (r+1) J);rw[hD]at V;have ap:t.stepZ kz z1 z2 zs leaf r=((Z.drop (qu t zs.length leaf (r+1)).frm).take (Qg t.fn (t.rowsOf zs.length) leaf r - (qu t zs.length leaf (r+1)).frm),(Z.drop (Qg t.fn (t.rowsOf zs.length) leaf r+1)).take ((qu t zs.length leaf (r+1)).to_ - Qg t.fn (t.rowsOf zs.length) leaf r - 1)):=by unfold TreeV.stepZ;rw[U]
  rw[q,U]at i1 i2;rw[q]at i3;have ey:t.lvlZ kz z1 z2 (t.leafZ kz z1 z2 o) (r+1)=t.rowZ kz z1 z2 (r+1) (t.rootZ (r+1) J.length) D D.length:=by
   show t.rowZ kz z1 z2 (r+1) (t.rootZ (r+1) (t.lvlZ kz z1 z2 (t.leafZ kz z1 z2 o) r).length) (t.upZ (r+1) (t.lvlZ kz z1 z2 (t.leafZ kz z1 z2 o) r)) (t.upZ (r+1) (t.lvlZ kz z1 z2 (t.leafZ kz z1 z2 o) r)).length=_
   rw[q,hD]
  have ez:t.lvlZ kz z1 z2 (t.leafZ kz z1 z2 zs) (r+1)=t.rowZ kz z1 z2 (r+1) (t.rootZ (r+1) J.length) (t.upZ (r+1) Z) (t.upZ (r+1) Z).length:=by
   show t.rowZ kz z1 z2 (r+1) (t.rootZ (r+1) (t.lvlZ kz z1 z2 (t.leafZ kz z1 z2 zs) r).length) (t.upZ (r+1) (t.lvlZ kz z1 z2 (t.leafZ kz z1 z2 zs) r)) (t.upZ (r+1) (t.lvlZ kz z1 z2 (t.leafZ kz z1 z2 zs) r)).length=_
   rw[U,i1]
  have ac:(t.upZ (r+1) Z).length=D.length:=by
   rw[<-hD];unfold TreeV.upZ;rw[i1];split
   ·rw[List.length_singleton,List.length_singleton]
   ·rw[Qm,Qm]
  have au: ∀k,k≠Qg t.fn (t.rowsOf zs.length) leaf (r+1)->qC (t.upZ (r+1) Z) k=qC D k:=by
   intro k hk;rw[<-hD];have aa:k≠if nth (t.rowsOf zs.length) (r+1)=1 then 0 else Qg t.fn (t.rowsOf zs.length) leaf r/t.fn:=hk
   unfold TreeV.upZ;rw[<-i1];by_cases G:t.rootZ (r+1) J.length=true
   ·rw[if_pos G,if_pos G];rw[X]at G;rw[if_pos (V.2.1 G)]at aa;unfold qC;rw[Lg,Lg,List.getElem?_eq_none (by simp;omega),List.getElem?_eq_none (by simp;omega)]
   ·rw[if_neg G,if_neg G];have an:t.rootZ (r+1) J.length=false:=by simpa using G
    have aA:=zX h an;rw[X]at G;rw[if_neg (fun e=>G (V.2.2 e))]at aa;by_cases ak:k<qP J.length t.fn
    ·simp only[qC,ZN,Lg,List.getElem?_map,List.getElem?_range ak,Option.map_some,Option.getD_some];congr 1
     refine List.ext_getElem? fun j=>?_
     unfold piece;rw[List.getElem?_take,List.getElem?_take];split
     ·rename_i hj;rw[List.getElem?_drop,List.getElem?_drop];refine i2 _ fun e=>aa ?_
      rw[<-e,Nat.mul_comm,Nat.mul_add_div (by omega),Nat.div_eq_of_lt hj];omega
     ·rfl
    ·unfold qC;rw[Lg,Lg,List.getElem?_eq_none (by rw[Qm];omega),List.getElem?_eq_none (by rw[Qm];omega)]
  refine⟨by rw[ey,ez,TreeV.rowZ_length,TreeV.rowZ_length,ac],fun k hk=>?_,?_⟩
  ·rw[ey,ez];refine ad (by rw[TreeV.rowZ_length,TreeV.rowZ_length,ac]) ?_;by_cases hc:k<D.length
   ·rw[yP _ _ _ _ _ _ _ (by omega),yP _ _ _ _ _ _ _ hc,au k hk,ac]
   ·unfold qC;rw[Lg,Lg,List.getElem?_eq_none (by rw[TreeV.rowZ_length];omega),List.getElem?_eq_none (by rw[TreeV.rowZ_length];omega)]
  ·have hi:Qg t.fn (t.rowsOf zs.length) leaf (r+1)<D.length:=by omega
   obtain⟨-,a,b,aq,az,av,al⟩:=qdh he kz z1 z2 ab Y.2.2 hr q hD hi;have aj:qu t zs.length leaf (r+1)=⟨r+1,Qg t.fn (t.rowsOf zs.length) leaf (r+1),a,b,decide (Qg t.fn (t.rowsOf zs.length) leaf (r+1)+1=D.length),t.rootZ (r+1) J.length⟩:=aq;have O:(qu t zs.length leaf (r+1)).frm<=Qg t.fn (t.rowsOf zs.length) leaf r/\Qg t.fn (t.rowsOf zs.length) leaf r<(qu t zs.length leaf (r+1)).to_:=⟨af.2.1,af.2.2⟩;show t.giveZ kz z1 z2 (qu t zs.length leaf (r+1)) (JL (qy (t.stepsZ kz z1 z2 zs leaf m) r) (t.pathR kz z1 z2 zs.length leaf (t.stepsZ kz z1 z2 zs leaf m) (qC (QH t.ln o) leaf) r))=_
   rw[i3,zM _ _ _ _ _ _ (by omega),ap,ey,yP _ _ _ _ _ _ _ hi];rw[aj]at O⊢;unfold JL;rw[qeE,qeE,qiX O.1 O.2 av i2,<-al];rfl
theorem qbv {t:TreeV}(h:t.validE=0)(O:0<=t.l/\t.l<=4294967295)(kz z1 z2 zs q:List Int)(r:q.length=zs.length)(G:zs.length<=4194304)(o:leaf<nth (t.rowsOf zs.length) 0)
  (V: ∀k,k≠leaf->qC (QH t.ln q) k=qC (QH t.ln zs) k) (m:Nat) (I:(t.rowsOf zs.length).length - 1=m):
  t.pathR kz z1 z2 zs.length leaf (t.stepsZ kz z1 z2 zs leaf m) (qC (QH t.ln q) leaf) m=t.digZ kz z1 z2 q:=by
 have X:=yO h G;have D:=qG X;have U:=D.len;have S:=qcX h O kz z1 z2 zs q r G o V m (by omega) m (by omega);rw[S.2.2];unfold TreeV.digZ;rw[if_pos h,r,I];have Y:=Yc D o m (by omega);have J:=D.last;rw[I]at J;rw[show Qg t.fn (t.rowsOf zs.length) leaf m=0 by omega]
attribute [local go_sem] Oper.semAt_some
theorem qcy {t:TreeV}(h:t.validE=0)(kz z1 z2 zs:List Int)(r:k<(t.rowsOf zs.length).length):(t.rowsZ kz z1 z2 zs).getD k []=t.lvlZ kz z1 z2 (t.leafZ kz z1 z2 zs) k/\k<(t.rowsZ kz z1 z2 zs).length:=by
 unfold TreeV.rowsZ;rw[if_pos h];have o:k<(t.allC kz z1 z2 zs ((t.rowsOf zs.length).length - 1+1)).length:=by rw[TreeV.allC_length];omega
 refine⟨?_,by rw[List.length_map];exact o⟩;have q:=qcY t kz z1 z2 zs (m:=(t.rowsOf zs.length).length - 1+1) (i:=k) (by omega);rw[Lg,List.getElem?_eq_getElem o,Option.getD_some]at q;rw[Lg,List.getElem?_map,List.getElem?_eq_getElem o,Option.map_some,Option.getD_some,q,TreeV.lvl_is];unfold TreeV.callsR TreeV.rowC TreeV.rowZ;rw[List.map_map];rfl
def TreeV.llZ (t:TreeV)(kz z1 z2 zs:List Int)(leaf:Nat):Nat->List (List (List Int))
 | 0=>[]
 | k+1=>t.llZ kz z1 z2 zs leaf k++[(t.stepZ kz z1 z2 zs leaf k).1]++[(t.stepZ kz z1 z2 zs leaf k).2]
theorem TreeV.llZ_length (t:TreeV)(kz z1 z2 zs:List Int)(leaf:Nat): ∀k,(t.llZ kz z1 z2 zs leaf k).length=k*2
 | 0=>rfl
 | k+1=>by simp[TreeV.llZ,TreeV.llZ_length t kz z1 z2 zs leaf k];omega
theorem qam (t:TreeV)(kz z1 z2 zs:List Int)(leaf:Nat): ∀m k,k<m->(t.llZ kz z1 z2 zs leaf m).getD (k*2) []=(t.stepZ kz z1 z2 zs leaf k).1/\(t.llZ kz z1 z2 zs leaf m).getD (k*2+1) []=(t.stepZ kz z1 z2 zs leaf k).2
 | m+1,k,h=>by
  have o:=TreeV.llZ_length t kz z1 z2 zs leaf m;show((t.llZ kz z1 z2 zs leaf m++[_])++[_]).getD _ _=_/\((t.llZ kz z1 z2 zs leaf m++[_])++[_]).getD _ _=_
  rw[qX,qX,qX,qX];simp only[List.length_append,List.length_singleton,o];by_cases q:k=m
  ·subst q;rw[if_pos (by omega),if_neg (by omega),if_pos rfl,if_neg (by omega),if_pos rfl];exact⟨rfl,rfl⟩
  ·rw[if_pos (by omega),if_pos (by omega),if_pos (by omega),if_pos (by omega)];exact qam t kz z1 z2 zs leaf m k (by omega)
theorem jk {α:Type}(X:List α)(p q r d:α){n:Nat}(h:X.length=n):(X++[p]++[q]).getD n d=p/\(X++[p]++[q]).getD (n+1) d=q/\(X++[p]++[q]).set n r=X++[r]++[q]/\(X++[p]++[q]).set (n+1) r=X++[p]++[r]:=by
 subst h;refine⟨?_,?_,?_,?_⟩
 ·rw[qX,if_pos (by simp),qX,if_neg (by omega),if_pos rfl]
 ·rw[qX,if_neg (by simp),if_pos (by simp)]
 ·rw[List.append_assoc,List.set_append_right _ _ Nl,Nat.sub_self];simp
 ·rw[List.append_assoc,List.set_append_right _ _ (by omega),Nat.add_sub_cancel_left];simp
theorem qc1 {L:List (List Int)}{f j:Nat}(h:f+j<L.length):(L.drop f).take (j+1)=(L.drop f).take j++[qC L (f+j)]:=by
 have e:qC L (f+j)=qC (L.drop f) j:=(qaC L f j).symm;rw[List.take_add_one,List.getElem?_drop,List.getElem?_eq_getElem h];unfold qC;rw[Lg,List.getElem?_eq_getElem h];rfl
theorem Hm{a b:Nat}{u v w:World}(x:Hid (Below a u v))(y:Below b v w)(h:a<=b):Hid (Below a u w):=hid (x.out.trans (y.mono h))
theorem qiN (t:TreeV)(kz z1 z2 zs:List Int)(leaf:Nat)(dy:(leaf:Int)<=18446744073709551615)(v:Value)(w:World)(h:TreeOk t kz z1 z2 w)(hv:Hold w v zs)(hn:zs.length<=4194304)(he:t.spotE zs.length 0 leaf=0):
  Calls Tryz.prog 30 #[t.val,v,.int .u64 leaf] w fun r w'=> ∃u xs DS,r= .returned (.tuple #[Q3 zs.length leaf u,.int .i64 0])/\(w'.ownsRow w.heap.size 69 2 u ((t.rowsOf zs.length).length - 1) xs/\ListsV w.heap.size w' xs (t.llZ kz z1 z2 zs leaf ((t.rowsOf zs.length).length - 1)) DS)/\Below w.heap.size w w':=by
 obtain⟨b0,al⟩:=Ex w.heap.size;obtain⟨i8,cU,cA,cM,cH⟩:=info_parts Qu;obtain⟨iS,dv,dq,cW,dp⟩:=info_parts qdp;have ht:(zs.length:Int)<=18446744073709551615:=by omega
 have bO:=yO h.v hn;have F:=Yq h.l ht he;obtain⟨b5,cT,i1,i2,ch⟩:=YB h.l ht he;have hR:=qG bO;have hL:=Qc h.v h.l kz z1 z2 zs;have bV:=QL bO kz z1 z2 (Ym h.v h.l kz z1 z2 zs) hL.2.2;obtain⟨m,hm⟩:=Ex ((t.rowsOf zs.length).length - 1);have dY:1<=m:=by have:=F.two;omega
 have dO:m<=255:=by have:=F.most;omega
 have cZ:(t.rowsOf zs.length).length=m+1:=by have:=F.two;omega
 have a3:=z8 t h.l zs.length ht leaf he;rw[hm]at a3;have HW:=hid a3;have aB:=hid (fun(W:World) (hb:Below b0 w W)=>qiv t kz z1 z2 zs v W h.l (h.k.below (al▸hb)) (h.s.below (al▸hb)) (h.p.below (al▸hb)) (hv.below (al▸hb)) hn);have bq: ∀k,k<m-> ∃f c d:Nat,(qu t zs.length leaf (k+1)).frm=f/\(qu t zs.length leaf (k+1)).to_=d/\chI t zs.length leaf k=(c:Nat)/\f+c<d/\d<=(t.lvlZ kz z1 z2 (t.leafZ kz z1 z2 zs) k).length/\(t.lvlZ kz z1 z2 (t.leafZ kz z1 z2 zs) k).length<=4194305/\(t.rowsZ kz z1 z2 zs).getD k []=t.lvlZ kz z1 z2 (t.leafZ kz z1 z2 zs) k/\k<(t.rowsZ kz z1 z2 zs).length/\(∀j,(qC (t.lvlZ kz z1 z2 (t.leafZ kz z1 z2 zs) k) j).length<=64)/\
   t.stepZ kz z1 z2 zs leaf k=(((t.lvlZ kz z1 z2 (t.leafZ kz z1 z2 zs) k).drop f).take c,((t.lvlZ kz z1 z2 (t.leafZ kz z1 z2 zs) k).drop (f+c+1)).take (d - (f+c) - 1)):=fun k hk=>by
  have hK:=b5 k (by omega);have bd:=qei hK;have dd:=zS (l:=t.ln) (by have:=(qn h.v).2.2.2.2.2.2.2.2.1;have:=h.l;unfold TreeV.ln;omega) hR (k:=k+1) (by omega) (by omega) (Yc hR (zY h.l he).2.2.2 (k+1) (by omega));have dm:=bV k (by omega);have hF:=Qo h.v kz z1 z2 hL.1 hL.2.2 k;have e1:=hK.le;have e2:=hK.lt;have aP:=qcy h.v kz z1 z2 zs (k:=k) (by omega);refine⟨_,chN t zs.length leaf k,_,rfl,rfl,bd,?_,?_,by have:=hL.2.1;omega,aP.1,aP.2,fun j=>?_,?_⟩
  ·unfold chN;omega
  ·rw[dm];exact dd
  ·unfold qC;rw[Lg]
   cases e:(t.lvlZ kz z1 z2 (t.leafZ kz z1 z2 zs) k)[j]? with
   | none=>simp
   | some z=>exact hF.2.2 z (List.mem_of_getElem? e)
  ·unfold TreeV.stepZ chN;rw[show(qu t zs.length leaf (k+1)).frm+(Qg t.fn (t.rowsOf zs.length) leaf k - (qu t zs.length leaf (k+1)).frm)=Qg t.fn (t.rowsOf zs.length) leaf k by omega]
 have cQ:=hid bq;have cY:Hid (∀k,(qu t zs.length leaf k).row=k):=hid (fun k=>(Y0 _ _ _ _ _ _).1);have cK:Hid (∀k,t.llZ kz z1 z2 zs leaf (k+1)=t.llZ kz z1 z2 zs leaf k++[(t.stepZ kz z1 z2 zs leaf k).1]++[(t.stepZ kz z1 z2 zs leaf k).2]):=hid (fun k=>rfl);have cD:Hid (t.llZ kz z1 z2 zs leaf 0=[]):=hid rfl;have cB:Hid (∀k,(t.llZ kz z1 z2 zs leaf k).length=k*2):=hid (t.llZ_length kz z1 z2 zs leaf);have dW:IntKind.u64.wrap (zs.length:Int)=(zs.length:Int):=u64_wrap_id _ (by omega) (by omega);have dL:Hid (t.validE=0):=hid h.v;obtain⟨va,vc,rfl, -, -⟩:=id hv.slice;rw[ch]at aB;rw[hm];clear F b5 cT i1 i2 ch hm cZ a3 bq hR hL bV bO he h hv hn;unfold TreeV.val Q3 at*;go_enter Tryz.func30,Tryz.ntmps30
 go_upto_region 1 with(fail)
 refine qm ?_;intro wA a8;have bj:wA.heap[b0]? =some (.cells t.c 26 (0,0)):=by rw[a8];exact(Bh _ _ _ (by simp;omega)).trans (qe _ _ al.symm)
 have bi:wA.heap[b0+1]? =some (.cells #[.int .u64 0,.int .u64 0,.slice none 0 0] 55 (0,0)):=by rw[a8];exact qe _ _ (by simp;omega)
 have ce:Below b0 w wA:=by rw[a8,<-al];exact(Br.alloc Nl _).alloc (by simp) _
 have di:b0+1<wA.heap.size:=(Ai bi).1;clear a8;go_wp2_with (refine L26 b0 rfl bj ?_)
 refine(HW.out wA).mono ?_;rintro e w2 ⟨g,dK,rfl,cv,aS⟩;have bl:=qf bj aS;have bA:=hid (qf bi aS);have bh:=hid (ce.trans (aS.mono (by omega)));have bg:=hid cv;have dw:b0+1<w2.heap.size:=by have:=aS.size;omega
 clear cv aS ce bj bi HW di;clear wA;go_wp2_with (refine L26 b0 rfl bl ?_)
 refine(aB.out w2 bh.out).mono ?_;rintro e w5 ⟨ru,dl,rfl,bz,aH⟩;have cF:=hid (qf bA.out aH);have dg:=Hm bh aH (by omega);have bs:=hid (bg.out.below aH);have bX:=hid (bz.le (Nat.zero_le _));obtain⟨ra,rc,rfl,dX⟩:=bz.formP;obtain⟨D,be⟩:=Ex w5.heap.size;have dM:b0+1<D:=by have:=aH.size;omega
 clear bz aH bg bA bh bl dw aB;clear w2;go_upto_region 9 with(fail)
 refine qm ?_;intro wB bC;have b6:wB.heap[D]? =some (.cells #[.int .u64 zs.length,.int .u64 leaf,.slice none 0 0] 55 (0,0)):=by rw[bC];exact qe _ _ be.symm
 have ck:Below D w5 wB:=by rw[bC,<-be];exact Br.alloc Nl _
 have ay:=hid b6;have ct:=hid ck;clear bC b6 ck;go_wp2_with fail
 go_loopw [49] (fun i wr=> ∃(k:Nat) (u:Value) (xs:List Value) (DS:List (List Value)),i= .int .i64 k/\k<=m/\wr.heap[D]? =some (.cells #[.int .u64 zs.length,.int .u64 leaf,u] 55 (0,0))/\wr.ownsRow D 69 2 u k xs/\ListsV D wr xs (t.llZ kz z1 z2 zs leaf k) DS/\Below D w5 wr) (fun i _=>m - (intOf i).toNat)
 case atStart=>exact⟨0,_,[],[],rfl,Nat.zero_le _,ay.out,Wo _ _ _ _,by rw[cD.out];exact ListsV.nil _ _,ct.out⟩
 case round=>
  clear ay ct;obtain⟨k,u,xs,DS,rfl,hk,ax,ak,a9,hb⟩:=hrel;have dt:D<=wr.heap.size:=by have:=hb.size;omega
  have cL:D<wr.heap.size:=(Ai ax).1;obtain⟨ua,uc,rfl⟩:=Yk ak;by_cases b3:k<m
  case pos=>
   have dA:(k:Int)<(m:Int):=by omega
   obtain⟨f,c,d,hf,hd,bd,dP,bc,dQ,aP,bN,cj,cn⟩:=cQ.out k b3;obtain⟨s0,s1,s2,s3,s4,s5,s6⟩:=bs.out.2 k b3;dsimp only at s0 s1 s2 s3 s4 s5 s6;rw[cY.out,show((k+1:Nat):Int)=(k:Int)+1 by omega]at s0;rw[hf]at s2;rw[hd]at s3;rw[bd]at s6;have bf:=cK.out k;rw[cn]at bf;have bY:=cB.out k;have aZ:=bX.out.2.1 k bN;rw[aP]at aZ;obtain⟨gR,cR,e1,df,ci⟩:=bX.out.getP bN;simp only[Value.slice.injEq,true_and]at e1;obtain⟨rfl,rfl⟩:=e1;generalize t.lvlZ kz z1 z2 (t.leafZ kz z1 z2 zs) k=R at*;generalize dl.getD k undef=X at*;obtain⟨Xa,cX,rfl,cS,aN,ca⟩:=aZ.hold;obtain⟨gX,oX,rfl,de,cm⟩:=ca.resolve_left (fun e=>by rw[e]at bc;simp at bc;omega);have dx:=hid cm;have c9:=hid cj;have c8:=hid bf;have aq:=hid bY;have aU:=hid bc;generalize ((qu t zs.length leaf (k+1)).at_:Int)=A at*;generalize (qu t zs.length leaf (k+1)).last=la at*;generalize (qu t zs.length leaf (k+1)).root=ro at*;have dz:g<w5.heap.size:=bs.out.1;have an: ∀o,wr.cell? ⟨g,o,none⟩=w5.cell? ⟨g,o,none⟩:=fun o=>hb.cell (p:=⟨g,o,none⟩) (by show g<D;omega)
   have c0:=(an _).trans s0;have c1:=(an _).trans s1;have c2:=(an _).trans s2;have c3:=(an _).trans s3;have c4:=(an _).trans s4;have c5:=(an _).trans s5;have c6:=(an _).trans s6;have cN:g<wr.heap.size:=by omega
   have aj:=hid ak;have aA:=hid a9;have HB:=hid hb;have ay:=hid ax;have bJ:=hid (qT ak);have dU:(d:Int)<=4194305:=by omega
   have dT:(f:Int)<=d:=by omega
   have d0:(d:Int)<=cX:=by omega
   have dZ:(k:Int)<(t.rowsZ kz z1 z2 zs).length:=by omega
   clear s0 s1 s2 s3 s4 s5 s6 an hf hd bd aP cn bf bY aZ ca cm cj bc ak a9 hb ax cS bN;obtain⟨G,aG⟩:=Ex wr.heap.size;go_upto_region 13 with(fail)
   refine qm ?_;intro Y hY;have aK:Y.heap[G]? =some (.cells #[.int .i64 ((k:Int)+1),.int .u64 A,.int .u64 f,.int .u64 d,.bool la,.bool ro,.int .u64 c] 131 (0,0)):=by rw[hY];exact(Bh _ _ _ (by simp;omega)).trans (qe _ _ aG.symm)
   have bM:Y.heap[G+1]? =some (.cells #[.slice none 0 0,.slice none 0 0] 69 (0,0)):=by rw[hY];exact qe _ _ (by simp;omega)
   have bo:Below G wr Y:=by rw[hY,<-aG];exact(Br.alloc Nl _).alloc (by simp) _
   have dh:G+1<Y.heap.size:=(Ai bM).1;have aT:Below D w5 Y:=HB.out.trans (bo.mono (by omega));have cy:=hid bo;have cO:=hid aT;have cb:=hid aK;have cu:=hid bM;have t0:Y.cell? ⟨G,0,none⟩=some (.int .i64 ((k:Int)+1)):=qd aK 0;have t2:Y.cell? ⟨G,2,none⟩=some (.int .u64 f):=qd aK 2;have t3:Y.cell? ⟨G,3,none⟩=some (.int .u64 d):=qd aK 3;have tX:Y.cell? ⟨gR,k,none⟩=some (.slice (some ⟨gX,oX,none⟩) R.length cX):=(aT.cell (p:=⟨gR,k,none⟩) (by show gR<D;omega)).trans ci;have cG:gR<Y.heap.size:=by omega
   have dF:gX<D:=by omega
   clear hY aK bM bo aT c0 c1 c2 c3 c4 c5 c6 ci df de cN;go_quiet (fail)
   go_upto_region 14 with(fail)
   refine qm ?_;intro V hV;have bk:Below Y.heap.size Y V:=by rw[hV];exact below_draws _ _ _
   have a6:=hid bk;have dJ:G+1<V.heap.size:=by have:=bk.size;omega
   clear hV bk t0 t2 t3 tX cG;have bZ:Hid (V.heap[G]? =some (.cells #[.int .i64 ((k:Int)+1),.int .u64 A,.int .u64 f,.int .u64 d,.bool la,.bool ro,.int .u64 c] 131 (0,0))):=hid (qf cb.out a6.out);have cf:Hid (V.heap[G+1]? =some (.cells #[.slice none 0 0,.slice none 0 0] 69 (0,0))):=hid (qf cu.out a6.out);have aJ:Below G wr V:=cy.out.trans (a6.out.mono (by omega));have bT:Hid (V.heap[D]? =some (.cells #[.int .u64 zs.length,.int .u64 leaf,.slice ua k uc] 55 (0,0))):=hid (qf ay.out (aG▸aJ));have cw:Hid (V.ownsRow D 69 2 (.slice ua k uc) k xs):=hid (ya aj.out (fun q J=>aJ.block q (by have:=bJ.out q J;omega)));have b9:Hid (ListsV D V xs (t.llZ kz z1 z2 zs leaf k) DS):=hid (aA.out.below (aG▸aJ));have cz:Hid (Below D w5 V):=Hm HB aJ (by omega);have aE:Hid (∀q,(Value.slice ua k uc).ownBlock=some q->q<G):=hid (fun q J=>by have:=bJ.out q J;omega);have bK:=hid (aA.out.lx.trans aq.out);have dR:=hid (aA.out.ld.trans aq.out);have dB:D<G:=by omega
   clear dh aJ cy cO cb cu a6 ay aj bJ aA HB dt cL aG;clear Y;clear wr;go_wp2_with fail
   go_loopw [69] (fun i wr=> ∃(j:Nat) (bv av:Value) (E:List (List Value)),i= .int .i64 j/\j<=d - f/\wr.heap[G]? =some (.cells #[.int .i64 ((k:Int)+1),.int .u64 A,.int .u64 f,.int .u64 d,.bool la,.bool ro,.int .u64 c] 131 (0,0))/\wr.heap[G+1]? =some (.cells #[bv,av] 69 (0,0))/\wr.heap[D]? =some (.cells #[.int .u64 zs.length,.int .u64 leaf,.slice ua k uc] 55 (0,0))/\wr.ownsRow D 69 2 (.slice ua k uc) k xs/\ListsV D wr (xs++[bv]++[av]) (t.llZ kz z1 z2 zs leaf k++[(R.drop f).take (min j c)]++[(R.drop (f+c+1)).take (j - c - 1)]) E/\Below D w5 wr) (fun i _=>d - f - (intOf i).toNat)
   case atStart=>exact⟨0,_,_,_,rfl,Nat.zero_le _,bZ.out,cf.out,bT.out,cw.out,by rw[Nat.zero_min,List.take_zero,Nat.zero_sub,Nat.zero_sub,List.take_zero];exact b9.out.more.more,cz.out⟩
   case round=>
    clear bZ cf bT cw b9 cz;obtain⟨j,bv,av,E,rfl,hj,a7,ar,a5,bx,aL,ap⟩:=hrel;have aN:=bK.out;have aw:(t.llZ kz z1 z2 zs leaf k).length=k*2:=aq.out;have aM:=aL.each (k*2) (by simp[aw]);have aO:=aL.each (k*2+1) (by simp[aw]);rw[(jk xs bv av bv undef aN).1,(jk _ _ _ [] [] aw).1]at aM;rw[(jk xs bv av bv undef aN).2.1,(jk _ _ _ [] [] aw).2.1]at aO;obtain⟨S,Z,ac,rfl⟩:=Q8 aM.1;obtain⟨ab,aa,U,rfl⟩:=Q8 aO.1;have dS:G+1<wr.heap.size:=(Ai ar).1;have g6:wr.cell? ⟨G,6,none⟩=some (.int .u64 c):=qd a7 6;have q0:wr.cell? ⟨G+1,0,none⟩=some (.slice S Z ac):=qd ar 0;have q1:wr.cell? ⟨G+1,1,none⟩=some (.slice ab aa U):=qd ar 1;have p2:wr.cell? ⟨D,2,none⟩=some (.slice ua k uc):=qd a5 2;have c7:D<wr.heap.size:=by omega
    have cp:=hid a7;have cq:=hid ar;have bb:=hid a5;have au:=hid bx;have az:=hid aL;have bE:=hid ap;have b7:=hid aM;have cg:=hid aO;by_cases dH:j<d - f
    case pos=>
     have dC:(j:Int)<(d:Int) - (f:Int):=by omega
     obtain⟨x,hx,bU⟩:=dx.out (f+j) (by have:=aU.out;omega);have cC:=c9.out (f+j);have bS:wr.cell? ⟨gX,oX+(f+j),none⟩=some x:=(ap.cell (p:=⟨gX,oX+(f+j),none⟩) (by show gX<D;omega)).trans hx;have aD:=(bU.below (be▸ap));rw[show oX+(f+j)=oX+f+j by omega]at bS;have b4:((R.drop f).take (j+1))=(R.drop f).take j++[qC R (f+j)]:=qc1 (by have:=aU.out;omega);have bH:c<j->(R.drop (f+c+1)).take (j - c)=(R.drop (f+c+1)).take (j - c - 1)++[qC R (f+j)]:=fun hc=>by
      have:=qc1 (L:=R) (f:=f+c+1) (j:=j - c - 1) (by have:=aU.out;omega)
      rw[show j - c - 1+1=j - c by omega,show f+c+1+(j - c - 1)=f+j by omega]at this;exact this
     generalize qC R (f+j)=z at*;obtain⟨xa,xc,rfl, -, -⟩:=id aD.slice;have co:=hid aD.src;have cl:=hid aD.1;have dr:=hid b4;have cE:=hid bH;have cI:gX<wr.heap.size:=by omega
     clear a7 ar a5 bx aL ap aM aO hx bU aD b4 bH aN aw;go_upto_region 18 with(at_builtin;refine Qb rfl _ _ _ rfl wr wr.heap.size rfl Br 5 i8 (.int .u8 0) 1 Tryz.underlying24 cU cA cM cH rfl (.slice none 0 0) 0 [] rfl (Wo _ _ _ _) _ _ _ rfl co.out (by unfold maxLen;omega) (by omega) ?_;intro v' w' ba ae)
     have aC:w'.ownsRow wr.heap.size 5 1 v' z.length (z.map qp):=by simpa using ba
     have bu:OwnB wr.heap.size w' v' z:=⟨cl.out,Yw aC⟩;obtain⟨da,dn,dc,rfl⟩:=Q8 aC;have bn:=qf cp.out ae;have aF:=qf cq.out ae;have cx:=qf bb.out ae;have aI:=hid (ya au.out (fun q J=>ae.block q (qT au.out q J)));have bm:=hid (az.out.below ae);have bI:=Hm bE ae (by omega);have bG:=hid (show ∀g,(Value.slice da dn dc).ownBlock=some g-> ∀b i,(dgV E b i).ownBlock≠some g from fun g hg b i e=>by
      have:=(qg8 bu g hg).1
      have:=(az.out.dlt b i g e).2
      omega)
     have cd:=hid (bu.le (show D<=wr.heap.size by omega));have aY:=b7.out.1;have a4:=cg.out.1;have aW:=hid (ya aY (fun q J=>ae.block q (qT aY q J)));have aX:=hid (ya a4 (fun q J=>ae.block q (qT a4 q J)));have bL:D<=w'.heap.size:=by have:=ae.size;omega
     have dE:G+1<w'.heap.size:=by have:=ae.size;omega
     have n6:w'.cell? ⟨G,6,none⟩=some (.int .u64 c):=qd bn 6;have n0:w'.cell? ⟨G+1,0,none⟩=some (.slice S Z ac):=qd aF 0;have n1:w'.cell? ⟨G+1,1,none⟩=some (.slice ab aa U):=qd aF 1;have bF:=hid bn;have br:=hid aF;have bt:=hid cx;have dI:IntKind.u64.wrap (j:Int)=(j:Int):=u64_wrap_id _ (by omega) (by omega);have cJ:((R.drop f).take (min j c)).length<=8388608/\((R.drop (f+c+1)).take (j - c - 1)).length<=8388608:=by simp only[List.length_take];omega
     obtain⟨bR,bP⟩:=cJ;clear ba aC bu bn aF cx aY a4 ae cp cq bb au bE b7 cg g6 q0 q1 p2 bS cI az co cl cC;by_cases dj:j<c
     case pos=>
      go_wp2_with (at_builtin;refine JS rfl _ _ rfl D (.slice S Z ac) _ _ (.slice da dn dc) rfl aW.out rfl rfl bR bL ?_;intro v' ag ho hk af aQ;obtain⟨na,nn,nc,rfl⟩:=Q8 ho;have stay: ∀(p:Nat) (cs:Array Value) (T:TypeId),T≠24->w'.heap[p]? =some (.cells cs T (0,0))->ag.heap[p]? =some (.cells cs T (0,0)):=(fun p cs T hT hp=>(af.block p (Ai hp).1 (fun e=>Yu aW.out hp hT p e rfl)).trans hp);have I:=stay _ _ _ (by decide) br.out;have n0:ag.cell? ⟨G+1,0,none⟩=some (.slice S Z ac):=qd I 0;obtain⟨-,fz⟩:=yr I;have b8:G+1<ag.heap.size:=(Ai I).1;have ai:=hid stay;have ao:=hid ho;have am:=hid hk;have ah:=hid af;have aV:=hid aQ;have ad:=hid I;clear ho hk af aQ stay I)
      have O:=(But.refl (G+1) ag).set 0 (.slice na nn nc);have a1:=jk xs (.slice S Z ac) (.slice ab aa U) (.slice na nn nc) undef bK.out;have a2:=jk (t.llZ kz z1 z2 zs leaf k) ((R.drop f).take (min j c)) ((R.drop (f+c+1)).take (j - c - 1)) (((R.drop f).take (min j c))++[z]) [] aq.out;have hP:=ListsV.put (v':= .slice na nn nc) (x:= .slice da dn dc) (z:=z) (a:=(k*2)) bm.out (by simp[aq.out]) (by rw[a2.1];exact ao.out) cd.out am.out (by rw[a1.1];exact ah.out) (by rw[a1.1];exact aV.out) bG.out;rw[a1.2.2.1,a2.1,a2.2.2.1]at hP;have e9:(R.drop f).take (min j c)++[z]=(R.drop f).take (min (j+1) c):=by rw[Nat.min_eq_left (by omega),Nat.min_eq_left (by omega),dr.out]
      rw[e9,show j - c - 1=j+1 - c - 1 by omega]at hP;have aR:(ag.setCell ⟨G+1,0,none⟩ (.slice na nn nc)).ownsRow D 69 2 (.slice ua k uc) k xs:=ya (ya aI.out (Yt aW.out aI.out (by decide) ah.out)) (fun q J=>O.block q (by have:=aE.out q J;omega) (by have:=aE.out q J;omega));exact⟨⟨j+1,.slice na nn nc,.slice ab aa U,_,by go_num,by omega,(O.block G (by omega) (by omega)).trans (ai.out _ _ _ (by decide) bF.out),block_setCell ad.out _,(O.block D (by omega) (by omega)).trans (ai.out _ _ _ (by decide) bt.out),aR,hP.off ad.out (by decide) (by decide) O,(bI.out.trans am.out.below).setCell (by show D<=G+1;omega) _⟩,by simp[intOf];omega⟩
     have dG:(j<c)=False:=eq_false dj;by_cases dk:c<j
     case pos=>
      go_wp2_with (at_builtin;refine JS rfl _ _ rfl D (.slice ab aa U) _ _ (.slice da dn dc) rfl aX.out rfl rfl bP bL ?_;intro v' ag ho hk af aQ;obtain⟨na,nn,nc,rfl⟩:=Q8 ho;have stay: ∀(p:Nat) (cs:Array Value) (T:TypeId),T≠24->w'.heap[p]? =some (.cells cs T (0,0))->ag.heap[p]? =some (.cells cs T (0,0)):=(fun p cs T hT hp=>(af.block p (Ai hp).1 (fun e=>Yu aX.out hp hT p e rfl)).trans hp);have I:=stay _ _ _ (by decide) br.out;have n0:ag.cell? ⟨G+1,1,none⟩=some (.slice ab aa U):=qd I 1;obtain⟨-,fz⟩:=yr I;have b8:G+1<ag.heap.size:=(Ai I).1;have ai:=hid stay;have ao:=hid ho;have am:=hid hk;have ah:=hid af;have aV:=hid aQ;have ad:=hid I;clear ho hk af aQ stay I)
      have O:=(But.refl (G+1) ag).set 1 (.slice na nn nc);have a1:=jk xs (.slice S Z ac) (.slice ab aa U) (.slice na nn nc) undef bK.out;have a2:=jk (t.llZ kz z1 z2 zs leaf k) ((R.drop f).take (min j c)) ((R.drop (f+c+1)).take (j - c - 1)) (((R.drop (f+c+1)).take (j - c - 1))++[z]) [] aq.out;have hP:=ListsV.put (v':= .slice na nn nc) (x:= .slice da dn dc) (z:=z) (a:=(k*2+1)) bm.out (by simp[aq.out]) (by rw[a2.2.1];exact ao.out) cd.out am.out (by rw[a1.2.1];exact ah.out) (by rw[a1.2.1];exact aV.out) bG.out;rw[a1.2.2.2,a2.2.1,a2.2.2.2]at hP;have e9:(R.drop (f+c+1)).take (j - c - 1)++[z]=(R.drop (f+c+1)).take (j+1 - c - 1):=by rw[show j+1 - c - 1=j - c by omega,cE.out (by omega)]
      rw[e9,show min j c=min (j+1) c by omega]at hP;have aR:(ag.setCell ⟨G+1,1,none⟩ (.slice na nn nc)).ownsRow D 69 2 (.slice ua k uc) k xs:=ya (ya aI.out (Yt aX.out aI.out (by decide) ah.out)) (fun q J=>O.block q (by have:=aE.out q J;omega) (by have:=aE.out q J;omega));exact⟨⟨j+1,.slice S Z ac,.slice na nn nc,_,by go_num,by omega,(O.block G (by omega) (by omega)).trans (ai.out _ _ _ (by decide) bF.out),block_setCell ad.out _,(O.block D (by omega) (by omega)).trans (ai.out _ _ _ (by decide) bt.out),aR,hP.off ad.out (by decide) (by decide) O,(bI.out.trans am.out.below).setCell (by show D<=G+1;omega) _⟩,by simp[intOf];omega⟩
     have dD:(c<j)=False:=eq_false dk;obtain rfl:j=c:=by omega
     go_wp2_with fail
     refine⟨⟨j+1,_,_,E,by go_num,by omega,bF.out,br.out,bt.out,aI.out,?_,bI.out⟩,by simp[intOf];omega⟩;have J:=bm.out;rw[show min j j=min (j+1) j by omega,show j - j - 1=j+1 - j - 1 by omega]at J;exact J
    obtain rfl:j=d - f:=by omega
    have dV:(Value.slice S Z ac).oneCell'=true/\(Value.slice ab aa U).oneCell'=true:=⟨rfl,rfl⟩;clear a7 ar a5 bx aL ap aM aO aN aw;have dN:(k:Int)+1<=256:=by omega
    have bQ:D<=wr.heap.size:=by omega
    go_wp2_with (at_builtin;refine QO rfl _ _ _ rfl D 69 (by decide) iS _ 2 48 Tryz.underlying53 dv dq cW dp rfl (by decide) (.slice ua k uc) k xs [.slice S Z ac,.slice ab aa U] _ rfl au.out rfl rfl (by simp[Value.oneCell']) (by unfold maxLen;omega) (by omega) bQ ?_;intro v' w' ho hk af;obtain⟨na,nn,nc,rfl⟩:=Q8 ho;have I:w'.heap[D]? =some (.cells #[.int .u64 zs.length,.int .u64 leaf,.slice ua k uc] 55 (0,0)):=(af.block D c7 (fun e=>Yu au.out bb.out (by decide) D e rfl)).trans bb.out;have n2:w'.cell? ⟨D,2,none⟩=some (.slice ua k uc):=qd I 2;obtain⟨-,fz⟩:=yr I;have b8:D<w'.heap.size:=(Ai I).1;have ao:=hid ho;have am:=hid hk;have ah:=hid af;have ad:=hid I;clear ho hk af I)
    have O:=(But.refl D w').set 2 (.slice na nn nc);have cV:ListsV D w' (xs++[.slice S Z ac]++[.slice ab aa U]) _ E:=az.out.keep am.out (fun a q J=>ah.out.block q (az.out.xlt a q J).2 (fun e=>by
     obtain⟨cc,db⟩:=Y5 au.out q e;exact az.out.xoff db (by decide) a q J rfl))
    have bW:=cV.off ad.out (by decide) (by decide) O;rw[show min (d - f) c=c by omega,show d - f - c - 1=d - (f+c) - 1 by omega,<-c8.out]at bW;have aR:(w'.setCell ⟨D,2,none⟩ (.slice na nn nc)).ownsRow D 69 2 (.slice na nn nc) (k+1) (xs++[.slice S Z ac]++[.slice ab aa U]):=by
     have e:xs++[Value.slice S Z ac]++[.slice ab aa U]=xs++[.slice S Z ac,.slice ab aa U]:=by simp
     rw[e];exact ya ao.out (fun q J=>O.block q (qT ao.out q J) (fun e=>Yu ao.out ad.out (by decide) q J e))
    exact⟨⟨k+1,_,_,E,by go_num,by omega,block_setCell ad.out _,aR,bW,(bE.out.trans am.out.below).setCell Nl _⟩,by simp[intOf];omega⟩
  obtain rfl:m=k:=by omega
  have aj:=hid ak;have aA:=hid a9;have ay:=hid ax;have bD:=qf cF.out (be▸hb);have du:=Hm dg hb (by omega);obtain⟨cR,fR⟩:=yr bD;obtain⟨cP,fP⟩:=yr ax;have ar:b0+1<wr.heap.size:=by omega
  have cr:=hid bD;clear ak a9 ax bD hb;go_wp2_with fail
  have O:=((((But.refl (b0+1) wr).set 0 (.int .u64 zs.length)).set 1 (.int .u64 leaf)).set 2 (.slice ua m uc));exact Bp (qI rfl _ _ _ _ _ _ _ rfl (Yo cr.out _ _ _) Tryz.underlying55 rfl (by kernel_rfl)) rfl ⟨_,xs,DS,rfl,by rw[al];exact⟨ownsRow_le (ya aj.out (fun q J=>O.block q (qT aj.out q J) (by have:=Yv aj.out q J;omega))) (by omega),(aA.out.off cr.out (by decide) (by decide) O).le (by omega)⟩,by rw[al];exact Yp du.out (by omega) _ _ _⟩
end Go.Proofs.YtahenngmaoellaaGreat
namespace Go.Proofs.YtahenngmaoellaaGreat
open Go.ChangeShapes Go.WideShapes Go.ChangeAt Go.RowKit Go.Joins Go.Shelf Go.Maps
open Go.Lib (hid)
variable{n m leaf B:Nat}{v:Value}{W W':World}{D:List Int}
theorem qgJ (r:1<=n)(zs:List Int)(k:Nat):qC (QH n zs) k=(zs.drop (k*n)).take n:=by
 unfold QH;by_cases o:zs=[]
 ·rw[if_pos o,o]
  cases k<;>simp[qC]
 ·rw[if_neg o];by_cases q:k<qP zs.length n
  ·simp[qC,Zb,piece,Lg,q]
  ·have D:=mt (Zu (n:=zs.length) (d:=n) (j:=k) r).2 q;rw[List.drop_eq_nil_of_le (by omega)];unfold qC;rw[Lg,List.getElem?_eq_none (by rw[Qx];omega)];simp
theorem qcA {t:TreeV}(h:t.validE=0)(q:0<=t.l/\t.l<=4294967295)(kz z1 z2 zs:List Int)(I:zs.length<=4194304){k:Nat}(J:(t.rowsOf zs.length).length - 1=m)(S:k<m): ∀d∈t.lvlZ kz z1 z2 (t.leafZ kz z1 z2 zs) k,(d.length:Int)=t.i/\ ∀a∈d,0<=a/\a<=255:=by
 have D:=yO h I;have U:=Qc h q kz z1 z2 zs;have o:=qeu D kz z1 z2 (Ym h q kz z1 z2 zs) U.2.2;rw[J]at o;have G:t.rtR kz z1 z2 zs k=false:=by
  cases k with
  | zero=>rfl
  | succ r=>
   have:=o.2.2 (r+1) (by omega) S
   rw[Nat.add_sub_cancel]at this;exact this
 rw[TreeV.lvl_is,G];intro d O;obtain⟨i, -,rfl⟩:=List.mem_map.1 O;exact⟨je h ..,fun a V=>yF _ _ _ _ _ _ _ _ _ a V⟩
theorem jc {t:TreeV}(h:t.validE=0)(D:n<=4194304)(o:leaf<lvs n t.ln):t.spotE n 0 leaf=0:=by
 have q:=yO h D;have r:=qG q;have G:=r.len;unfold TreeV.spotE;rw[if_neg (by simp[q]),if_pos ⟨by omega,by show 0<_;omega,by show leaf<nth (t.rowsOf n) 0;rw[r.first];exact o⟩]
theorem zL {t:TreeV}(h:t.validE=0)(r:0<=t.l/\t.l<=4294967295)(kz z1 z2 zs:List Int)(hn:zs.length<=1048576)(Z:t.spotE zs.length 0 leaf=0)(hm:(t.rowsOf zs.length).length - 1=m):
  zd t.i m (chI t zs.length leaf) (afI t zs.length leaf) (t.stepsZ kz z1 z2 zs leaf m)/\QX 1048576 (t.stepsZ kz z1 z2 zs leaf m):=by
 have O:=yO h (show zs.length<=4194304 by omega);have G:=qG O;have ad:=G.len;have ac:=G.most;have I:=Qc h r kz z1 z2 zs;have ab:=QL O kz z1 z2 (Ym h r kz z1 z2 zs) I.2.2;obtain⟨Y, -,i1,i2, -⟩:=YB r (show(zs.length:Int)<=18446744073709551615 by omega) Z;have J:=qn h;have ag:t.pn<=255:=by have:=J.2.2.2.2.2.2.2.1;unfold TreeV.pn;omega
 have D: ∀k,k<m->((t.stepZ kz z1 z2 zs leaf k).1.length:Int)=chI t zs.length leaf k/\((t.stepZ kz z1 z2 zs leaf k).2.length:Int)=afI t zs.length leaf k/\(t.stepZ kz z1 z2 zs leaf k).1.length<=1048576/\(t.stepZ kz z1 z2 zs leaf k).2.length<=1048576/\
   ∀d∈(t.stepZ kz z1 z2 zs leaf k).1++(t.stepZ kz z1 z2 zs leaf k).2,(d.length:Int)=t.i/\ ∀a∈d,0<=a/\a<=255:=fun k S=>by
  have U:=Y k (by omega);have aa:=zS (l:=t.ln) (by have:=J.2.2.2.2.2.2.2.2.1;unfold TreeV.ln;omega) G (k:=k+1) (by omega) (by omega) (Yc G (zY r Z).2.2.2 (k+1) (by omega));have ae:(qu t zs.length leaf (k+1)).to_<=nth (t.rowsOf zs.length) k:=aa;have af:=ab k (by omega);have hF:=Qo h kz z1 z2 I.1 I.2.2 k;have e1:=U.le;have e2:=U.lt;have h3:=I.2.1;have h4:=hF.2.1;have V:=qcA h r kz z1 z2 zs (by omega) hm S;have l1:(t.stepZ kz z1 z2 zs leaf k).1.length=chN t zs.length leaf k:=by
   unfold TreeV.stepZ chN;simp only[List.length_take,List.length_drop];omega
  have X:(t.stepZ kz z1 z2 zs leaf k).2.length=afN t zs.length leaf k:=by
   unfold TreeV.stepZ afN;simp only[List.length_take,List.length_drop];omega
  refine⟨by rw[l1,qei U],by rw[X];rfl,?_,?_,fun d o=>?_⟩
  ·rw[l1];unfold chN;omega
  ·rw[X];unfold afN;omega
  ·refine V d ?_;rcases List.mem_append.1 o with o|o
   ·exact List.mem_of_mem_drop (List.mem_of_mem_take o)
   ·exact List.mem_of_mem_drop (List.mem_of_mem_take o)
 refine⟨⟨QN ..,fun j hj=>?_⟩,?_,fun s hs=>?_⟩
 ·obtain⟨a1,a2, -, -,q⟩:=D j hj;unfold Zh;rw[zM _ _ _ _ _ _ hj];exact⟨a1,a2,fun d o=>(q d o).1⟩
 ·rw[QN];omega
 ·obtain⟨k,S,rfl⟩:=List.mem_map.1 hs;obtain⟨-, -,a3,a4,q⟩:=D k (List.mem_range.1 S);exact⟨⟨a3,fun d o=>⟨by have:=(q d (List.mem_append_left _ o)).1;omega,(q d (List.mem_append_left _ o)).2⟩⟩,⟨a4,fun d o=>⟨by have:=(q d (List.mem_append_right _ o)).1;omega,(q d (List.mem_append_right _ o)).2⟩⟩⟩
theorem qaU {t:TreeV}(h:t.validE=0)(U:0<=t.l/\t.l<=4294967295)(kz z1 z2 zs q:List Int)(S:q.length=zs.length)(Z:zs.length<=1048576)(D:leaf<lvs zs.length t.ln)(G:(t.rowsOf zs.length).length - 1=m)
  (hs: ∀k,k≠leaf->qC (QH t.ln q) k=qC (QH t.ln zs) k):
  t.fitsQ zs.length leaf (t.stepsZ kz z1 z2 zs leaf m) (qC (QH t.ln q) leaf)/\t.rootE zs.length leaf (t.stepsZ kz z1 z2 zs leaf m) (qC (QH t.ln q) leaf)=0/\t.rootD kz z1 z2 zs.length leaf (t.stepsZ kz z1 z2 zs leaf m) (qC (QH t.ln q) leaf)=t.digZ kz z1 z2 q:=by
 have J:=jc h (show zs.length<=4194304 by omega) D;have Y:=yO h (show zs.length<=4194304 by omega);have X:=qG Y;have V:1<=t.ln:=by
  have:=(qn h).2.2.2.2.2.2.2.2.1
  unfold TreeV.ln;omega
 have r:t.fitsQ zs.length leaf (t.stepsZ kz z1 z2 zs leaf m) (qC (QH t.ln q) leaf):=by
  refine⟨?_,by rw[G];exact(zL h U kz z1 z2 zs Z J G).1⟩;rw[qgJ V,List.length_take,List.length_drop,S];have o:=zY U J;have O: ¬(1<=0/\nth (t.rowsOf zs.length) 0=1):=by omega
  unfold qu Qg at*;by_cases I:leaf=nth (t.rowsOf zs.length) 0 - 1
  ·rw[Ys O I]at o⊢;simp only[if_true]at o⊢;rw[X.first]at I;have:zs.length<=leaf*t.ln+t.ln:=by
    unfold lvs at I;have h5:=Jj (m:=zs.length) (d:=t.ln) (k:=leaf+1) (by omega);by_cases h6:zs.length=0
    ·omega
    ·have h7:qP zs.length t.ln<=leaf+1:=by
      have:=ZQ (d:=t.ln) (n:=zs.length) (by omega)
      omega
     have:=h5 h7
     rw[Nat.add_mul,Nat.one_mul]at this;exact this
   omega
  ·rw[YT O I]at o⊢;simp only[if_true]at o⊢;rw[Nat.add_mul,Nat.one_mul]at o⊢;omega
 refine⟨r,?_,?_⟩
 ·unfold TreeV.rootE;rw[if_neg (by simp[J]),if_pos r]
 ·unfold TreeV.rootD;rw[if_pos ⟨J,r⟩,G];exact qbv h U kz z1 z2 zs q S (by omega) (by rw[X.first];exact D) hs m G
theorem qg4 {w:World}{L:List (List Int)}{ds:List Value}(h:DigV B w v L ds):pRowsAt w v L:=by
 rcases h.1.2 with⟨rfl,e⟩|⟨g,o,I,rfl, -⟩
 ·exact⟨none,0,fun _=>undef,by rw[e],fun _=>rfl,.inl (List.eq_nil_of_length_eq_zero e)⟩
 ·refine⟨_,o,fun i=>ds.getD i undef,rfl,(fun e=>by cases e),?_⟩;by_cases G:L.length=0
  ·exact .inl (List.eq_nil_of_length_eq_zero G)
  ·obtain⟨J,D,e, -,r,q⟩:=qdJ h.1 (by omega);simp only[Value.slice.injEq,Option.some.injEq,Addr.mk.injEq,and_true,true_and]at e;obtain⟨rfl, -⟩:=e;refine .inr ⟨g,0,rfl,r,fun i hi=>⟨?_,(h.2 i hi).hold.holds8⟩⟩;rw[Nat.zero_add];refine q i _ ?_;have:=h.len
   show ds[i]? =some (ds.getD i undef)
   rw[Lg,List.getElem?_eq_getElem (by omega)];rfl
theorem qim {w:World}{u:Value}{xs:List Value}{DS:List (List Value)}{t:TreeV}{kz z1 z2 zs:List Int}(S:w.ownsRow B 69 2 u m xs)(h:ListsV B w xs (t.llZ kz z1 z2 zs leaf m) DS):StepsAt w u (t.stepsZ kz z1 z2 zs leaf m):=by
 have V:=TreeV.llZ_length t kz z1 z2 zs leaf m;have o:=QN t kz z1 z2 zs leaf m;rcases S.2 with⟨rfl,e⟩|⟨g,r,q,rfl,Z,I,X,h4,Y,U⟩
 ·exact⟨none,0,fun _=>undef,fun _=>undef,by rw[o,e],fun _=>rfl,.inl (List.eq_nil_of_length_eq_zero (by omega))⟩
 ·refine⟨_,r,fun i=>xs.getD (i*2) undef,fun i=>xs.getD (i*2+1) undef,by rw[o],(fun e=>by cases e),.inr ⟨g,0,rfl,(Ai I).1,fun i hi=>?_⟩⟩;rw[o]at hi;have hx:=h.lx;have J: ∀j,j<m*2->w.cell? ⟨g,0+j,none⟩=some (xs.getD j undef):=fun j hj=>by
   rw[qd I (0+j),Nat.zero_add];have e:q.toList[j]? =xs[j]? :=by rw[<-U,List.getElem?_take,if_pos (by omega)]
   rw[<-Array.getElem?_toList,e,Lg,List.getElem?_eq_getElem (by omega)];rfl
  have O:=qam t kz z1 z2 zs leaf m i hi;rw[zM _ _ _ _ _ _ hi];have G:=qg4 (h.each (i*2) (by omega));have D:=qg4 (h.each (i*2+1) (by omega));rw[O.1]at G;rw[O.2]at D;exact⟨J _ (by omega),by have:=J (i*2+1) (by omega);rw[show 0+(i*2+1)=0+i*2+1 by omega]at this;exact this,G,D⟩
attribute [local go_sem] Oper.semAt_some
theorem gp {a0 A:Act}{x:Tmp->Value}{ds:List Tmp}{gs:List (Value->World->Prop)}{D:List Oper}{o:Array Edge}{q:Value->World->Prop}{r:Oper}(S:ZR a0 x ds A)
  (G: ∀e∈o,Region.binds .any e=true-> ∀r,D[e.on]? =some r->QQ gs e.on (qM x r) W) (i s:Nat)
  (U:s∈ds:=by decide) (J:(⟨i,.data⟩:Edge)∈o:=by simp) (I:D[i]? =some r:=by rfl) (V:qM x r=x s:=by rfl) (O:QQ gs i=q:=by rfl):q (A.tmps.getD s undef) W:=by
 have:=G _ J rfl r I
 rw[O,V]at this;rw[S.1 s U];exact this
def PairO (B:Nat)(D:List Int)(v:Value)(W:World):Prop:= ∃u,v= .tuple #[u,.int .i64 0]/\OwnB B W u D
theorem PairO.below (h:PairO B D v W)(o:Below W.heap.size W W'):PairO B D v W':=by
 obtain⟨u,e,h⟩:=h;exact⟨u,e,h.kb (KB.of_below o (Nat.zero_le _))⟩
def BytO (B:Nat)(D:List Int)(v:Value)(W:World):Prop:=OwnB B W v D
theorem BytO.below (h:BytO B D v W)(o:Below W.heap.size W W'):BytO B D v W':=OwnB.kb h (KB.of_below o (Nat.zero_le _))
theorem OwnB.open {w:World}{x:Value}{z:List Int}(h:OwnB B w x z)(I:0<z.length): ∃g q o,x= .slice (some ⟨g,0,none⟩) z.length q/\B<=g/\w.heap[g]? =some (.cells o 5 (0,0))/\z.length<=q/\q<=o.size/\ ∀j,j<z.length->w.cell? ⟨g,j,none⟩=some (.int .u8 (qo z j)):=by
 rcases h.2 with⟨rfl, -⟩|⟨g,q,o,rfl,O,D,G,S,U,J⟩
 ·simp at I
 ·refine⟨g,q,o,rfl,O,D,G,S,fun j r=>?_⟩;rw[qd D j];have e:o.toList[j]? =(z.map qp)[j]? :=by rw[<-J,List.getElem?_take,if_pos r]
  rw[<-Array.getElem?_toList,e,List.getElem?_map,List.getElem?_eq_getElem r];simp[qp,qo,Lg,r]
theorem OwnB.set {g o i:Nat}{w:World}{r:List Int}{z:Int}(h:OwnB B w (.slice (some ⟨g,0,none⟩) r.length o) r)(hi:i<r.length)(I:0<=z/\z<=255):OwnB B (w.setCell ⟨g,i,none⟩ (.int .u8 z)) (.slice (some ⟨g,0,none⟩) (r.set i z).length o) (r.set i z):=by
 refine⟨fun a V=>?_,?_⟩
 ·rcases List.mem_or_eq_of_mem_set V with q|q
  ·exact h.1 a q
  ·rw[q];exact I
 ·rcases h.2 with⟨-,e⟩|⟨Y,U,D,e,q,J,G,X,S,O⟩
  ·cases e
  ·simp only[Value.slice.injEq,Option.some.injEq,Addr.mk.injEq,and_true,true_and]at e;obtain⟨rfl,rfl⟩:=e;refine .inr ⟨g,o,D.setIfInBounds i (.int .u8 z),rfl,q,block_setCell J _,by rw[List.length_set];exact G,by simpa using X,S,?_⟩;rw[List.length_set,Array.toList_setIfInBounds,List.take_set,O,List.map_set];rfl
theorem qhx {α:Type}{l:List α}{a b:Nat}(h:(l.take a).length=b):l.take b=l.take a:=by
 rw[List.length_take]at h;subst h;by_cases o:a<=l.length
 ·rw[Nat.min_eq_left o]
 ·rw[Nat.min_eq_right (by omega),List.take_of_length_le Nl,List.take_of_length_le (by omega)]
end Go.Proofs.YtahenngmaoellaaGreat
namespace Go.Proofs.YtahenngmaoellaaGreat
open Go.ChangeShapes Go.WideShapes Go.ChangeAt Go.RowKit Go.Joins Go.Shelf Go.Maps
open Go.Lib (hid)
variable{i total leaf m:Nat}{ss:List Qd}
theorem qbH {zs:List Int}{at_ x:Nat}: ∀k,(∀j,j<k->qo zs (at_+j)=byt x j)->qO zs at_ k=((x%2^(8*k):Nat):Int)
 | 0,_=>by simp[qO,Nat.mod_one]
 | k+1,h=>by
  rw[qO,qbH k (fun j r=>h j (by omega)),h k (by omega)];have o:2^(8*(k+1))=2^(8*k)*256:=by rw[Nat.mul_add,Nat.pow_add]
  have q:256^k=2^(8*k):=by rw[Nat.pow_mul]
  unfold byt Zk;rw[o,Nat.mod_mul,q,Int.natCast_add,Int.natCast_mul,Int.mul_comm];congr 2
theorem qay (L:List (List Int))(c:Nat): ∀n,c<n-> ∃r,qL L n=qL L c++Qs L c++r
 | n+1,h=>by
  by_cases q:c=n
  ·subst q;exact⟨[],by rw[qL,List.append_nil]⟩
  ·obtain⟨r,o⟩:=qay L c n (by omega);exact⟨r++Qs L n,by rw[qL,o,List.append_assoc]⟩
theorem qa0 (ss:List Qd)(k:Nat): ∀m,k<m-> ∃r,yi ss m=yi ss k++(qL (qy ss k).1 (qy ss k).1.length++qL (qy ss k).2 (qy ss k).2.length)++r
 | m+1,h=>by
  by_cases q:k=m
  ·subst q;exact⟨[],by rw[yi,List.append_nil]⟩
  ·obtain⟨r,o⟩:=qa0 ss k m (by omega);exact⟨r++(qL (qy ss m).1 (qy ss m).1.length++qL (qy ss m).2 (qy ss m).2.length),by rw[yi,o,List.append_assoc]⟩
theorem qhh (A X B:List Int){n:Nat}(o:A.length=n)(hi:X.length=i):digZ (A++X++B) n i=X:=by
 subst o hi;unfold digZ;rw[List.append_assoc,List.drop_left,List.take_left]
theorem qds {t:TreeV}(hi:t.i=(i:Int))(J: ∀k,k<m->chI t total leaf k=(chN t total leaf k:Nat))(I:zd t.i m (chI t total leaf) (afI t total leaf) ss):
  ∀k,k<=m->(yi ss k).length=QJ t total leaf k*i/\(k<m->(qL (qy ss k).1 (qy ss k).1.length).length=chN t total leaf k*i/\(qy ss k).1.length=chN t total leaf k/\(qy ss k).2.length=afN t total leaf k/\ ∀d∈(qy ss k).1++(qy ss k).2,d.length=i):=by
 have one: ∀k,k<m->(qL (qy ss k).1 (qy ss k).1.length).length=chN t total leaf k*i/\(qL (qy ss k).2 (qy ss k).2.length).length=afN t total leaf k*i/\(qy ss k).1.length=chN t total leaf k/\(qy ss k).2.length=afN t total leaf k/\ ∀d∈(qy ss k).1++(qy ss k).2,d.length=i:=fun k r=>by
  obtain⟨a1,a2,O⟩:=I.2 k r;rw[J k r]at a1;have b1:(qy ss k).1.length=chN t total leaf k:=by omega
  have b2:(qy ss k).2.length=afN t total leaf k:=by unfold afI at a2;omega
  have q: ∀d∈(qy ss k).1++(qy ss k).2,d.length=i:=fun d o=>by have:=O d o;omega
  refine⟨?_,?_,b1,b2,q⟩
  ·rw[yw (fun d o=>q d (List.mem_append_left _ o)) _ Nl,b1]
  ·rw[yw (fun d o=>q d (List.mem_append_right _ o)) _ Nl,b2]
 intro k;induction k with
 | zero=>exact fun _=>⟨by simp[yi,QJ],fun h=>⟨(one 0 h).1,(one 0 h).2.2⟩⟩
 | succ k ih=>
  intro h;obtain⟨S,G, -⟩:=one k (by omega);refine⟨?_,fun D=>⟨(one _ D).1,(one _ D).2.2⟩⟩;show(yi ss k++(_++_)).length=(QJ t total leaf k+(chN t total leaf k+afN t total leaf k))*i
  rw[List.length_append,List.length_append,(ih (by omega)).1,S,G,Nat.add_mul,Nat.add_mul]
theorem qbJ (t:TreeV)(total leaf i:Nat)(zs:List Int): ∀m k,k<m->qy (unL t total leaf i zs m) k=(Jn zs (16+QJ t total leaf k*i) i (chN t total leaf k),Jn zs (16+QJ t total leaf k*i+chN t total leaf k*i) i (afN t total leaf k))
 | m+1,k,h=>by
  show qy (unL t total leaf i zs m++[_]) k=_
  have o:=yg t total leaf i zs m;by_cases q:k=m
  ·subst q;unfold qy;rw[Lg,List.getElem?_append_right (by omega),o,Nat.sub_self];rfl
  ·have:=qbJ t total leaf i zs m k (by omega)
   unfold qy at this⊢;rw[Lg,List.getElem?_append_left (by omega),<-Lg];exact this
theorem qe8 {A B:List (List Int)}(q:A.length=B.length)(h: ∀c,c<A.length->Qs A c=Qs B c):A=B:=by
 refine List.ext_getElem q fun c o r=>?_
 have:=h c o
 unfold Qs at this;rw[Lg,Lg,List.getElem?_eq_getElem o,List.getElem?_eq_getElem r]at this;exact this
theorem qkk {t:TreeV}(h:t.validE=0)(hi:t.i=(i:Int))(ad:1<=i)(hm:(t.rowsOf total).length - 1=m)(ht:(total:Int)<=18446744073709551615)(aa:(leaf:Int)<=18446744073709551615)(he:t.spotE total 0 leaf=0)
  (hK: ∀k,k<m->chI t total leaf k=(chN t total leaf k:Nat)) {zs:List Int} (hl:zs.length=16+QJ t total leaf m*i) (U: ∀j,j<16->qo zs j=qo (qD total 8++qD leaf 8) j) (O: ∀s∈unL t total leaf i zs m,s.1.length<=1048576/\s.2.length<=1048576) (ac:i<=64) (V: ∀z∈zs,0<=z/\z<=255) (ae:m<=255):
  unF t zs=⟨total,leaf,unL t total leaf i zs m,0⟩/\zd t.i m (chI t total leaf) (afI t total leaf) (unL t total leaf i zs m)/\QX 1048576 (unL t total leaf i zs m):=by
 have hb: ∀(x k j:Nat),j<k->qo (qD x k) j=byt x j:=fun x k j D=>by simp[qo,qD,Lg,D]
 have h0: ∀j,j<8->qo zs (0+j)=byt total j:=fun j D=>by
  rw[Nat.zero_add,U j (by omega),<-hb total 8 j D];unfold qo;rw[Lg,Lg,List.getElem?_append_left (by rw[qH];exact D)]
 have h8: ∀j,j<8->qo zs (8+j)=byt leaf j:=fun j D=>by
  rw[U (8+j) (by omega),<-hb leaf 8 j D];unfold qo;rw[Lg,Lg,List.getElem?_append_right (by rw[qH];omega),qH,Nat.add_sub_cancel_left]
 have v0:qO zs 0 8=(total:Int):=by rw[qbH 8 h0,Nat.mod_eq_of_lt (by omega)]
 have v8:qO zs 8 8=(leaf:Int):=by rw[qbH 8 h8,Nat.mod_eq_of_lt (by omega)]
 have Y:t.i.toNat=i:=by omega
 have r: ∀{k},k<m-> ∀d∈Jn zs (16+QJ t total leaf k*i) i (chN t total leaf k)++Jn zs (16+QJ t total leaf k*i+chN t total leaf k*i) i (afN t total leaf k),d.length=i/\ ∀a∈d,0<=a/\a<=255:=fun {k} o d q=>by
  have ab:=Nat.mul_le_mul_right i (qcb t total leaf (show k+1<=m by omega));have G:QJ t total leaf (k+1)*i=QJ t total leaf k*i+(chN t total leaf k*i+afN t total leaf k*i):=by
   show(QJ t total leaf k+(chN t total leaf k+afN t total leaf k))*i=_
   rw[Nat.add_mul,Nat.add_mul]
  have I: ∀at_,at_+i<=zs.length->(digZ zs at_ i).length=i/\ ∀a∈digZ zs at_ i,0<=a/\a<=255:=fun at_ ha=>⟨by unfold digZ;rw[List.length_take,List.length_drop];omega,fun a X=>V a (List.mem_of_mem_drop (List.mem_of_mem_take X))⟩
  rcases List.mem_append.1 q with q|q
  ·obtain⟨c,S,rfl⟩:=List.mem_map.1 q;have:=Nat.mul_le_mul_right i (show c+1<=chN t total leaf k by have:=List.mem_range.1 S;omega)
   rw[Nat.add_mul,Nat.one_mul]at this;exact I _ (by omega)
  ·obtain⟨c,S,rfl⟩:=List.mem_map.1 q;have:=Nat.mul_le_mul_right i (show c+1<=afN t total leaf k by have:=List.mem_range.1 S;omega)
   rw[Nat.add_mul,Nat.one_mul]at this;exact I _ (by omega)
 have J: ∀s∈unL t total leaf i zs m,∃k,k<m/\s=qy (unL t total leaf i zs m) k:=fun s G=>by
  obtain⟨k,o,rfl⟩:=List.mem_iff_getElem.1 G;refine⟨k,by rw[yg]at o;exact o,?_⟩;unfold qy;rw[Lg,List.getElem?_eq_getElem o];rfl
 refine⟨?_,⟨yg ..,fun k o=>?_⟩,⟨by rw[yg];omega,fun s G=>?_⟩⟩
 ·unfold unF;rw[if_neg (by simp[h]),if_neg (by omega),v0,v8,Int.toNat_natCast,Int.toNat_natCast,if_neg (by simp[he]),hm,Y,if_neg (by omega),if_neg (by omega)]
 ·unfold Zh;rw[qbJ _ _ _ _ _ _ _ o];refine⟨by rw[yf,hK k o],by rw[yf];rfl,fun d q=>?_⟩;rw[(r o d q).1,hi]
 ·obtain⟨h5,Z⟩:=O s G;obtain⟨k,o,e⟩:=J s G;rw[qbJ _ _ _ _ _ _ _ o]at e;rw[e]at h5 Z⊢;exact⟨⟨h5,fun d q=>⟨by have:=(r o d (List.mem_append_left _ q)).1;omega,(r o d (List.mem_append_left _ q)).2⟩⟩,⟨Z,fun d q=>⟨by have:=(r o d (List.mem_append_right _ q)).1;omega,(r o d (List.mem_append_right _ q)).2⟩⟩⟩
theorem qij {t:TreeV}(hi:t.i=(i:Int))(hK: ∀k,k<m->chI t total leaf k=(chN t total leaf k:Nat))(U:zd t.i m (chI t total leaf) (afI t total leaf) ss):unL t total leaf i (ye total leaf ss m) m=ss:=by
 have hF:=qds hi hK U;refine List.ext_getElem (by rw[yg,U.1]) fun k D h2=>?_
 rw[yg]at D;obtain⟨V,f2⟩:=hF k (by omega);obtain⟨f3,Z,f5,I⟩:=f2 D;have e:qy (unL t total leaf i (ye total leaf ss m) m) k=qy ss k:=by
  rw[qbJ _ _ _ _ _ _ _ D];obtain⟨r,Y⟩:=qa0 ss k m D;have X:(qD total 8++qD leaf 8).length=16:=by rw[List.length_append,qH,qH]
  have S:ye total leaf ss m=(qD total 8++qD leaf 8)++yi ss k++qL (qy ss k).1 (qy ss k).1.length++qL (qy ss k).2 (qy ss k).2.length++r:=by
   unfold ye;rw[Y];simp only[List.append_assoc]
  refine Prod.ext ?_ ?_
  ·refine qe8 (by rw[yf,Z]) fun c G=>?_
   rw[yf]at G;obtain⟨o,q⟩:=qay (qy ss k).1 c (qy ss k).1.length (by omega);rw[qcr G,S,q];have O:qD total 8++qD leaf 8++yi ss k++(qL (qy ss k).1 c++Qs (qy ss k).1 c++o)++qL (qy ss k).2 (qy ss k).2.length++r=(qD total 8++qD leaf 8++yi ss k++qL (qy ss k).1 c)++Qs (qy ss k).1 c++(o++qL (qy ss k).2 (qy ss k).2.length++r):=by simp only[List.append_assoc]
   rw[O];refine qhh _ _ _ ?_ (I _ (List.mem_append_left _ (yb (by omega))));rw[List.length_append,List.length_append,X,V,yw (fun d J=>I d (List.mem_append_left _ J)) _ (by omega)]
  ·refine qe8 (by rw[yf,f5]) fun c G=>?_
   rw[yf]at G;obtain⟨o,q⟩:=qay (qy ss k).2 c (qy ss k).2.length (by omega);rw[qcr G,S,q];have O:qD total 8++qD leaf 8++yi ss k++qL (qy ss k).1 (qy ss k).1.length++(qL (qy ss k).2 c++Qs (qy ss k).2 c++o)++r=(qD total 8++qD leaf 8++yi ss k++qL (qy ss k).1 (qy ss k).1.length++qL (qy ss k).2 c)++Qs (qy ss k).2 c++(o++r):=by simp only[List.append_assoc]
   rw[O];refine qhh _ _ _ ?_ (I _ (List.mem_append_right _ (yb (by omega))));rw[List.length_append,List.length_append,List.length_append,X,V,f3,yw (fun d J=>I d (List.mem_append_right _ J)) _ (by omega)]
 unfold qy at e;rw[Lg,Lg,List.getElem?_eq_getElem (by rw[yg];exact D),List.getElem?_eq_getElem h2]at e;exact e
attribute [local go_sem] Oper.semAt_some
theorem qj4 {z:Int}(o:0<=z)(q:z<=255):0<=bits .xor .u8 z 1/\bits .xor .u8 z 1<=255:=by
 obtain⟨m,rfl⟩: ∃m:Nat,z=m:=⟨z.toNat,by omega⟩;have: ∀m:Nat,m<256->0<=bits .xor .u8 (m:Int) 1/\bits .xor .u8 (m:Int) 1<=255:=by decide+kernel
 exact this m (by omega)
theorem qfg (xs o:List Int)(u v:Value)(w:World)(q:Hold w u xs)(r:Hold w v o):
  Calls Tryz.prog 37 #[u,v] w fun e w'=>e= .returned (.bool (decide (xs=o)))/\ ∃m,w'=w.drewN m:=by
 have H:=hid (qf8 xs o u v w q r);clear q r;go_enter Tryz.func37,Tryz.ntmps37
 go_wp2_with fail
 refine H.out.mono ?_;rintro e w1 ⟨rfl,m,rfl⟩;go_wp2
 go_ret
 exact⟨rfl,m,rfl⟩
structure PackF (t:TreeV)(total leaf i m:Nat)(ss:List Qd)(P:List Int):Prop where
 len:P.length=16+QJ t total leaf m*i
 most:P.length<=134217728
 byt: ∀z∈P,0<=z/\z<=255
 un: ∀zs:List Int,zs.length=P.length->(∀j,j<16->qo zs j=qo P j)->(∀z∈zs,0<=z/\z<=255)->unF t zs=⟨total,leaf,unL t total leaf i zs m,0⟩/\zd t.i m (chI t total leaf) (afI t total leaf) (unL t total leaf i zs m)/\QX 1048576 (unL t total leaf i zs m)
 back:unL t total leaf i P m=ss
theorem qgm {t:TreeV}(h:t.validE=0)(G:0<=t.l/\t.l<=4294967295)(kz z1 z2 zs:List Int)(hn:zs.length<=1048576)(ac:leaf<=65535)(Y:t.spotE zs.length 0 leaf=0)(Z:(t.rowsOf zs.length).length - 1=m):
  ∃i:Nat,t.i=(i:Int)/\PackF t zs.length leaf i m (t.stepsZ kz z1 z2 zs leaf m) (ye zs.length leaf (t.stepsZ kz z1 z2 zs leaf m) m):=by
 have U:=yO h (show zs.length<=4194304 by omega);have hR:=qG U;have af:=hR.len;have ad:=hR.most;have ab:=qn h;have ai:t.pn<=255:=by have:=ab.2.2.2.2.2.2.2.1;unfold TreeV.pn;omega
 obtain⟨S, -,i1,i2, -⟩:=YB G (show(zs.length:Int)<=18446744073709551615 by omega) Y;obtain⟨hf,ho⟩:=zL h G kz z1 z2 zs hn Y Z;obtain⟨i,hi⟩: ∃i:Nat,t.i=(i:Int):=⟨t.i.toNat,by omega⟩;have X: ∀k,k<m->chI t zs.length leaf k=(chN t zs.length leaf k:Nat):=fun k r=>qei (S k (by omega))
 have hF:=qds hi X hf;have ag:=qe9 S m (by omega);have ah:nth (t.rowsOf zs.length) 0<=zs.length+1:=by
  rw[<-QL U kz z1 z2 (Ym h G kz z1 z2 zs) (Qc h G kz z1 z2 zs).2.2 0 (by omega)];exact(Qc h G kz z1 z2 zs).2.1
 have ae:QJ t zs.length leaf m*i<=1048577*64:=Nat.mul_le_mul (by omega) (by omega);have O:(ye zs.length leaf (t.stepsZ kz z1 z2 zs leaf m) m).length=16+QJ t zs.length leaf m*i:=by rw[zT,(hF m Nl).1]
 have J:ye zs.length leaf (t.stepsZ kz z1 z2 zs leaf m) m=(qD zs.length 8++qD leaf 8)++yi (t.stepsZ kz z1 z2 zs leaf m) m:=rfl;refine⟨i,hi,O,by omega,fun z o=>?_,fun ys hy hj hb=>?_,qij hi X hf⟩
 ·have D: ∀(L:List (List Int)),(∀d∈L,qap d)-> ∀k,k<=L.length-> ∀z∈qL L k,0<=z/\z<=255:=fun L hL k=>by
   induction k with
   | zero=>intro _ z o;simp[qL]at o
   | succ k ih=>
    intro r z o;rcases List.mem_append.1 o with o|o
    ·exact ih (by omega) z o
    ·exact hL _ (yb (by omega)) z o
  have aa: ∀k,k<=m-> ∀z∈yi (t.stepsZ kz z1 z2 zs leaf m) k,0<=z/\z<=255:=fun k=>by
   induction k with
   | zero=>intro _ z o;simp[yi]at o
   | succ k ih=>
    intro r z o;have q:=ho.2 _ (ZL (ss:=t.stepsZ kz z1 z2 zs leaf m) (k:=k) (by rw[QN];omega));rcases List.mem_append.1 o with o|o
    ·exact ih (by omega) z o
    ·rcases List.mem_append.1 o with o|o
     ·exact D _ (fun d V=>(q.1.2 d V).2) _ Nl z o
     ·exact D _ (fun d V=>(q.2.2 d V).2) _ Nl z o
  rw[J]at o;rcases List.mem_append.1 o with o|o
  ·rcases List.mem_append.1 o with o|o
   ·exact zr _ _ z o
   ·exact zr _ _ z o
  ·exact aa m Nl z o
 ·refine qkk h hi (by omega) Z (by omega) (by omega) Y X (hy.trans O) (fun j I=>?_) (fun s hs=>?_) (by omega) hb (by omega)
  ·rw[hj j I,J];unfold qo;rw[Lg,Lg,List.getElem?_append_left (by rw[List.length_append,qH,qH];exact I)]
  ·obtain⟨k,r,e⟩:=List.mem_iff_getElem.1 hs;rw[yg]at r;have e2:s=qy (unL t zs.length leaf i ys m) k:=by
    unfold qy;rw[Lg,List.getElem?_eq_getElem (by rw[yg];exact r),<-e];rfl
   rw[e2,qbJ _ _ _ _ _ _ _ r,yf,yf];have h5:=((hF k (by omega)).2 r).2;have q:=ho.2 _ (ZL (ss:=t.stepsZ kz z1 z2 zs leaf m) (k:=k) (by rw[QN];omega));rw[<-h5.1,<-h5.2.1];exact⟨q.1.1,q.2.1⟩
theorem qb6 (t:TreeV)(n nr nb:Nat)(hn:n<=1048576)(hl:0<=t.l/\t.l<=4294967295)(va:Option Addr)(vc:Nat)(w:World)(O:t.validE≠0):
  Calls Tryz.prog 10 #[t.val,.slice va n vc,.int .u16 nr,.int .u16 nb] w (qhl w):=by
 obtain⟨o,G⟩:=Ex w.heap.size;have I:t.err n≠0:=fun e=>O (Q9 e)
 have Z:=hid (Jw t hl n (by omega) I);have hq:(t.err n != 0)=true:=by rw[bne_iff_ne];exact I
 have ab:IntKind.u64.wrap (n:Int)=(n:Int):=u64_wrap_id _ (by omega) (by omega);generalize t.err n=ev at*;clear I O;unfold TreeV.val at*;go_enter Tryz.func10,Tryz.ntmps10
 go_upto_region 1 with(fail)
 refine qm ?_;intro D r;have J:D.heap[o]? =some (.cells t.c 26 (0,0)):=by rw[r];exact qe _ _ G.symm
 have V:Below o w D:=by rw[r,<-G];exact Br.alloc Nl _
 have X:o<D.heap.size:=(Ai J).1;clear r;go_wp2_with fail
 refine(Jy D).mono ?_;rintro e w1 ⟨rfl,q⟩;have S:=qf J q;have Y:=hid (V.trans (q.mono (by omega)));have ac:o<w1.heap.size:=by have:=q.size;omega
 clear q J V X;go_wp2_with (refine L26 o rfl S ?_)
 refine(Z.out w1).mono ?_;rintro e w2 ⟨rfl,U⟩;have aa:=Hm Y U (by omega);clear U S;go_wp2_with fail
 go_ret
 exact⟨rfl,by rw[G];exact aa.out⟩
theorem qbr (t:TreeV)(kz z1 z2 zs:List Int)(nr nb:Nat)(dF:nr<=65535)(d6:nb<=65535)(hl:0<=t.l/\t.l<=4294967295)(v:Value)(w:World)(h:TreeH w t kz z1 z2)(hv:Hold w v zs)(hn:zs.length<=1048576):
  Calls Tryz.prog 10 #[t.val,v,.int .u16 nr,.int .u16 nb] w (qhl w):=by
 obtain⟨G,aa⟩:=Ex w.heap.size;obtain⟨va,vc,rfl,dP,dJ⟩:=id hv.slice;by_cases ab:t.validE=0
 case neg=>exact qb6 t zs.length nr nb hn hl va vc w ab
 have bh:=yO ab (show zs.length<=4194304 by omega);have bx:1<=t.ln:=by
  have:=(qn ab).2.2.2.2.2.2.2.2.1
  unfold TreeV.ln;omega
 obtain⟨n,aC⟩:=Ex (lvs zs.length t.ln);have dU:1<=n:=by rw[<-aC];unfold lvs;omega
 have dc:=hid (fun(W:World)=>aC▸Z0 t hl zs.length (by omega) bh W);obtain⟨L,ag⟩:=Ex (nr%n);have bq:L<=65535:=by rw[<-ag];exact Nat.le_trans (Nat.mod_le _ _) dF
 have aT:L<n:=by rw[<-ag];exact Nat.mod_lt _ (by omega)
 have he:=jc ab (show zs.length<=4194304 by omega) (aC.symm▸aT);have au:=zY hl he;have aY:=jh bh au.2.2.2 (k:=0) (by have:=(qG bh).len;omega);have cH:t.spotR zs.length ((0:Nat):Int) L=qu t zs.length L 0:=aY.2.1;have aQ:(qu t zs.length L 0).row=0/\(qu t zs.length L 0).at_=L:=⟨aY.2.2.1,aY.2.2.2.1⟩;have ac:=fun(W:World)=>yQ t hl zs.length (by omega) ((0:Nat):Int) L W
 rw[cH,show t.spotE zs.length ((0:Nat):Int) L=0 from he]at ac;unfold SpotV.val at ac;rw[aQ.1,aQ.2]at ac;obtain⟨m,hm⟩:=Ex ((t.rowsOf zs.length).length - 1);obtain⟨F,hF⟩:=Ex ((qu t zs.length L 0).frm);obtain⟨T,hT⟩:=Ex ((qu t zs.length L 0).to_);have aB:=qaU ab hl kz z1 z2 zs zs rfl hn (leaf:=L) (m:=m) (aC.symm▸aT) hm (fun _ _=>rfl);obtain⟨i,hi,bg⟩:=qgm ab hl kz z1 z2 zs hn bq he hm;have bm:=zL ab hl kz z1 z2 zs hn he hm;have cK:=QN t kz z1 z2 zs L m;obtain⟨P,hP⟩:=Ex (ye zs.length L (t.stepsZ kz z1 z2 zs L m) m);rw[hP]at bg;have aj:(zs.drop F).take (T - F)=qC (QH t.ln zs) L:=by
  have h3:=aB.1.1;rw[hF,hT,qgJ bx]at h3;have h4:=au.2.2.1;rw[hF]at h4;rw[qgJ bx,h4];rw[h4]at h3;exact qhx (by omega)
 have ba:(qC (QH t.ln zs) L).length<=1048576:=by rw[<-aj,List.length_take,List.length_drop];omega
 have aq: ∀ad:List Int,ad.length=P.length->(∀j,j<16->qo ad j=qo P j)->(∀z∈ad,0<=z/\z<=255)->unF t ad=⟨zs.length,L,unL t zs.length L i ad m,0⟩/\QX 1048576 (unL t zs.length L i ad m)/\t.rootE zs.length L (unL t zs.length L i ad m) (qC (QH t.ln zs) L)=0/\t.checkE kz z1 z2 zs.length L (unL t zs.length L i ad m) (qC (QH t.ln zs) L) (t.digZ kz z1 z2 zs)=if t.rootD kz z1 z2 zs.length L (unL t zs.length L i ad m) (qC (QH t.ln zs) L)=t.digZ kz z1 z2 zs then 0 else 110:=fun ad a1 a2 a3=>by
  obtain⟨u1,u2,u3⟩:=bg.un ad a1 a2 a3;have e1:t.rootE zs.length L (unL t zs.length L i ad m) (qC (QH t.ln zs) L)=0:=by
   unfold TreeV.rootE;rw[if_neg (by simp[he]),if_pos ⟨aB.1.1,by rw[hm];exact u2⟩]
  refine⟨u1,u3,e1,?_⟩;unfold TreeV.checkE;rw[if_neg (by simp[e1])]
 rw[hF,hT]at ac au;have dC:F<=T:=au.1;have du:T<=zs.length:=au.2.1;generalize (qu t zs.length L 0).last=la at ac;generalize (qu t zs.length L 0).root=ro at ac;have dl:=hid ac;have dD:=hid aq;have b9:=hid bg;have dB:=hid aj;have dX:=hid ba;have co:=hid (fun(W:World) (hb:Below G w W)=>qiN t kz z1 z2 zs L (by omega) (.slice va zs.length vc) W ⟨ab,hl,h.k.below (aa▸hb),h.s.below (aa▸hb),h.p.below (aa▸hb)⟩ (hv.below (aa▸hb)) (by omega) he);rw[hm]at co;have bA:=hid (fun(W:World) (hb:Below G w W)=>qgC t kz z1 z2 zs (.slice va zs.length vc) W hl (h.k.below (aa▸hb)) (h.s.below (aa▸hb)) (h.p.below (aa▸hb)) (hv.below (aa▸hb)) (by omega));have cl:=hid (fun(W:World) (u:Value) (hu:StepsAt W u (t.stepsZ kz z1 z2 zs L m))=>qiQ t hl zs.length L (by omega) (by omega) u _ W hu bm.2 he (by rw[hm];exact bm.1));rw[cK,hP]at cl;have cT:=hid (fun(W:World) (x:Value) (ys:List Int) (h1: ∀z∈ys,0<=z/\z<=255) (h2:ys.length<=134217728) (h3: ∀a n c,x= .slice a n c->n<=c) (h4:Holds8 W x ys)=>qfQ t hl ys x h1 h2 h3 W h4);have cP:=hid (fun(W:World) (hb:Below G w W) (u x:Value) (ss:List Qd) (hu:StepsAt W u ss) (ho:QX 1048576 ss) (hx:Hold W x (qC (QH t.ln zs) L))=>qeO t kz z1 z2 (qC (QH t.ln zs) L) zs.length L (by omega) (by omega) hl u x ss W (h.below (aa▸hb)) hu ho hx ba);have ci:=hid (fun(W:World) (hb:Below G w W) (u x rv:Value) (ss:List Qd) (hu:StepsAt W u ss) (ho:QX 1048576 ss) (hx:Hold W x (qC (QH t.ln zs) L)) (hr:Hold W rv (t.digZ kz z1 z2 zs))=>qh9 t kz z1 z2 (qC (QH t.ln zs) L) (t.digZ kz z1 z2 zs) zs.length L (by omega) (by omega) hl u x rv ss W (h.below (aa▸hb)) hu ho hx ba hr);have df:=hid (fun(W:World) (hb:Below G w W)=>hv.below (aa▸hb));have d9:=hid ab;have d8:IntKind.u64.wrap (zs.length:Int)=(zs.length:Int):=u64_wrap_id _ (by omega) (by omega);have dV:IntKind.u64.wrap (nr:Int)=(nr:Int):=u64_wrap_id _ (by omega) (by omega);have da:=hid ag;unfold qkj at bA;rw[ab]at bA;generalize t.digZ kz z1 z2 zs=D at*;generalize qC (QH t.ln zs) L=pz at*;clear ab bh bx aC au aY cH aQ ac aB bg bm cK hP aj ba aq hm hF hT he h hv ag hi;unfold TreeV.val Q3 at*;go_enter Tryz.func10,Tryz.ntmps10
 go_upto_region 1 with(fail)
 refine qm ?_;intro wA bJ;have bt:wA.heap[G]? =some (.cells t.c 26 (0,0)):=by rw[bJ];exact qe _ _ aa.symm
 have cE:Below G w wA:=by rw[bJ,<-aa];exact Br.alloc Nl _
 have dm:G<wA.heap.size:=(Ai bt).1;clear bJ;go_wp2_with fail
 refine(Jy wA).mono ?_;rintro e w1 ⟨rfl,a9⟩;have bi:=qf bt a9;have cM:=hid (cE.trans (a9.mono (by omega)));have dr:G<w1.heap.size:=by have:=a9.size;omega
 clear a9 bt cE dm;go_wp2_with (refine L26 G rfl bi ?_)
 refine(dc.out w1).mono ?_;rintro e w2 ⟨rfl,bf⟩;have bw:=qf bi bf;have bn:=Hm cM bf (by omega);have dz:G<w2.heap.size:=by have:=bf.size;omega
 clear bf bi cM dr;have d0:0<n:=by omega
 have dW:(nr:Int)%(n:Int)=(L:Int):=by rw[<-da.out];exact(Int.natCast_emod nr n).symm
 go_wp2_with (refine L26 G rfl bw ?_)
 refine(co.out w2 bn.out).mono ?_;rintro e w3 ⟨u,xs,DS,rfl,⟨aO,cz⟩,bY⟩;have aw:=qim aO cz;obtain⟨ua,uc,rfl⟩:=Yk aO;have cC:=qf bw bY;obtain⟨bP,cm⟩:=Ex w3.heap.size;have b4:=Hm bn bY (by omega);have bo:=hid aw;clear aO cz aw bY bw bn dz;go_upto_region 8 with(fail)
 refine qm ?_;intro w4 bk;have bp:w4.heap[bP]? =some (.cells #[.int .u64 zs.length,.int .u64 L,.slice ua m uc] 55 (0,0)):=by rw[bk];exact qe _ _ cm.symm
 have aZ:Below w3.heap.size w3 w4:=by rw[bk];exact Br.alloc Nl _
 have aX:=qf cC aZ;have b6:=hid (bo.out.below aZ);have cv:=hid (b4.out.trans (aZ.mono (show G<=w3.heap.size by have:=b4.out.size;omega)));have dw:bP<w4.heap.size:=(Ai bp).1;have cW:G<w4.heap.size:=(Ai aX).1;clear bk aZ cC bo b4 cm;clear w3;go_wp2_with (refine L26 G rfl aX ?_)
 refine(dl.out w4).mono ?_;rintro e w5 ⟨rfl,ar⟩;have cf:=qf aX ar;have bV:=qf bp ar;have bH:=hid (b6.out.below ar);have cB:=Hm cv ar (by omega);have dd:G<w5.heap.size:=by have:=ar.size;omega
 obtain⟨bs,cO⟩:=Ex w5.heap.size;clear ar aX bp cv b6 dw cW;go_upto_region 9 with(fail)
 refine qm ?_;intro w6 bZ;have cS:w6.heap[bs]? =some (.cells #[.int .i64 0,.int .u64 L,.int .u64 F,.int .u64 T,.bool la,.bool ro] 96 (0,0)):=by rw[bZ];exact qe _ _ cO.symm
 have aH:Below w5.heap.size w5 w6:=by rw[bZ];exact Br.alloc Nl _
 have aR:=qf cf aH;have bC:=qf bV aH;have bK:=hid (bH.out.below aH);have bF:=Hm cB aH (by omega);have dq:G<w6.heap.size:=(Ai aR).1;clear bZ aH cf bV cB bH dd cO;clear w5;go_wp2_with (refine L26 G rfl aR ?_)
 refine(bA.out w6 bF.out).mono ?_;rintro e w7 ⟨rv,rfl,bl,ak⟩;obtain⟨bT,bz,rfl, -, -⟩:=bl.hold.slice;have a6:=qf aR ak;have br:=qf bC ak;have aN:=qf cS ak;have b5:=hid (bK.out.below ak);have bN:=Hm bF ak (by omega);have aP:=hid bl.hold;have dp:G<w7.heap.size:=by have:=ak.size;omega
 clear bl ak aR bC cS bK bF dq;go_wp2_with (first|(with_reducible show wpList _ _ _ (Oper.mk _ (Op.load 26 _) _ _ _ _::_) _ _);refine wpList_load_row rfl 26 _ rfl G rfl _ _ _ _ a6 Tryz.underlying26 rfl (by kernel_rfl) ?_|(with_reducible show wpList _ _ _ (Oper.mk _ (Op.load 55 _) _ _ _ _::_) _ _);refine wpList_load_row rfl 55 _ rfl bP rfl _ _ _ _ br Tryz.underlying55 rfl (by kernel_rfl) ?_)
 refine(cl.out w7 _ b5.out).mono ?_;rintro e w8 ⟨pv,rfl,cJ,ae⟩;have c8:=qf a6 ae;have cY:=qf aN ae;have cG:=Hm bN ae (by omega);have c4:=hid (aP.out.below ae);have a8:OwnB w7.heap.size w8 pv P:=⟨b9.out.byt,Yw cJ⟩;obtain⟨pa,pc,rfl,dM,dN⟩:=id a8.hold.slice;obtain⟨b7,aE⟩:=Ex w7.heap.size;rw[aE]at a8;have bO:=hid a8;have ct:=hid (aE▸ae:Below b7 w7 w8);have dj:G<w8.heap.size:=by have:=ae.size;omega
 have an:=hid (⟨bN.out,a6,aN,aP.out⟩:Below G w w7/\w7.heap[G]? =some (.cells t.c 26 (0,0))/\w7.heap[bs]? =some (.cells #[.int .i64 0,.int .u64 L,.int .u64 F,.int .u64 T,.bool la,.bool ro] 96 (0,0))/\Hold w7 (.slice bT D.length bz) D);have dT:G<b7:=by omega
 clear cJ a8 ae a6 br aN b5 bN aP dp;have d5:=b9.out.most;by_cases dE:P.length<=16
 case pos=>
  go_wp2_with fail
  go_ret
  exact⟨rfl,by rw[aa];exact cG.out⟩
 have cX:(P.length<=16)=False:=eq_false dE;have dQ:16<(P.length:Int):=by omega
 obtain⟨at_,dn⟩:=Ex (16+nb%(P.length - 16));have ax:at_<P.length:=by
  have:=Nat.mod_lt nb (show 0<P.length - 16 by omega)
  omega
 have dS:(16:Int)+(nb:Int)%((P.length:Int) - 16)=(at_:Int):=by
  rw[<-dn,Int.natCast_add,Int.natCast_emod,Int.natCast_sub (by omega)];rfl
 have dR:16<=at_:=by omega
 go_upto_region 16 with(fail)
 obtain⟨q,dY,d4,e1,cI,aq,dA,dg,cy⟩:=bO.out.open (by omega);simp only[Value.slice.injEq]at e1;obtain⟨rfl, -,rfl⟩:=e1;have c1:=cy at_ ax;have bv:=b9.out.byt (qo P at_) (by unfold qo;rw[Lg,List.getElem?_eq_getElem ax];exact List.getElem_mem ax);have af:=bO.out.set (i:=at_) (z:=bits .xor .u8 (qo P at_) 1) ax (qj4 bv.1 bv.2);obtain⟨Z,hZ⟩:=Ex (P.set at_ (bits .xor .u8 (qo P at_) 1));rw[hZ]at af;have aW:Z.length=P.length:=by rw[<-hZ,List.length_set]
 have cj: ∀j,j<16->qo Z j=qo P j:=fun j hj=>by
  rw[<-hZ];unfold qo;rw[Lg,Lg,List.getElem?_set_ne (by omega),<-Lg]
 obtain⟨cR,cg,cU,cr⟩:=dD.out Z aW cj af.1;rw[aW]at af;generalize qo P at_=z0 at*;obtain⟨zx,cD⟩:=Ex (bits .xor .u8 z0 1);rw[cD]at af;have dv:q<w8.heap.size:=(Ai aq).1;obtain⟨-,fz⟩:=yr aq;have dG:(at_:Int)<P.length:=by omega
 have cp:=hid cR;have HU:=hid (⟨cg,cU,cr⟩:_/\_/\_);have bU:=hid af;have cq:=hid aW;have HQ:=hid (⟨cI,af.1⟩:b7<=q/\_);clear af aW cj cR cg cU cr bv hZ cy aq dA dg cI cX;go_upto_region 17 with(fail)
 refine qm ?_;intro w9 bG;have aV:OwnB b7 w9 (.slice (some ⟨q,0,none⟩) P.length pc) Z:=by rw[bG];exact bU.out
 have aG:Below b7 w7 w9:=by rw[bG];exact ct.out.setCell HQ.out.1 _
 have cF:=hid (an.out.1.trans (aG.mono (by omega)));have a7:=qf an.out.2.1 (aE▸aG);have aM:=qf an.out.2.2.1 (aE▸aG);have b3:=hid (an.out.2.2.2.below (aE▸aG));have dH:P.length<=pc:=by omega
 have av:=cT.out w9 (.slice (some ⟨q,0,none⟩) P.length pc) Z HQ.out.2 (by have:=cq.out;omega) (fun a n c e=>by simp only[Value.slice.injEq]at e;omega) aV.hold.holds8;unfold qj7 at av;rw[cp.out]at av;dsimp only at av;unfold Q3 at av;have b8:=hid av;have d3:G<w9.heap.size:=(Ai a7).1;have dO:bs<w9.heap.size:=(Ai aM).1;clear aV aG bG av bU cT cp cq c8 cY cG c4 bO ct an fz c1 dv cD HQ dj;go_wp2_with (refine L26 G rfl a7 ?_)
 refine b8.out.mono ?_;rintro e ao ⟨pp,ee,rfl,⟨rfl,dZ,rfl,aw⟩,al⟩;generalize unL t zs.length L i Z m=SS at*;obtain⟨qa,qc,U,V,rfl, -, -⟩:=id aw;have aK:=qf a7 al;have bc:=qf aM al;have bI:=Hm cF al (by omega);have bd:=hid (b3.out.below al);have a5:=hid aw;obtain⟨bQ,cx⟩:=Ex ao.heap.size;have c3:G<ao.heap.size:=(Ai aK).1;clear aw al a7 aM cF b3 b8;go_upto_region 18 with(fail)
 refine qm ?_;intro O aJ;have bb:O.heap[bQ]? =some (.cells #[.int .u64 zs.length,.int .u64 L,.slice qa SS.length qc] 55 (0,0)):=by rw[aJ];exact qe _ _ cx.symm
 have ai:Below ao.heap.size ao O:=by rw[aJ];exact Br.alloc Nl _
 have ay:=qf aK ai;have ah:=qf bc ai;have am:=Hm bI ai (by omega);have az:=hid (bd.out.below ai);have aA:=hid (a5.out.below ai);have cZ:bQ<O.heap.size:=(Ai bb).1;have cd:G<O.heap.size:=(Ai ay).1;have ce:bs<O.heap.size:=(Ai ah).1;clear aJ ai aK bc bI bd a5 cx c3;clear ao;go_upto_region 20 with(fail)
 obtain⟨A,r⟩: ∃A,(if vc=F then va else va.map (·.add F))=A:=⟨_,rfl⟩;have ca:Hold O (.slice A (T - F) (vc - F)) pz:=by
  have:=qfl (lo:=F) (hi:=T) (df.out O am.out) dC du
  rw[r,dB.out]at this;exact this
 have aL:=hid ca;have cL:=hid r;have aS:=fun(W:World) (I:Below O.heap.size O W)=>cP.out W (am.out.trans (I.mono (by omega))) (.slice qa SS.length qc) (.slice A (T - F) (vc - F)) SS (aA.out.below I) HU.out.1 (aL.out.below I)
 rw[HU.out.2.1]at aS;have aU:=fun(W:World) (I:Below O.heap.size O W)=>ci.out W (am.out.trans (I.mono (by omega))) (.slice qa SS.length qc) (.slice A (T - F) (vc - F)) (.slice bT D.length bz) SS (aA.out.below I) HU.out.1 (aL.out.below I) (az.out.below I)
 rw[HU.out.2.2]at aU;obtain⟨X,hX⟩:=Ex (t.rootD kz z1 z2 zs.length L SS pz);rw[hX]at aS aU;have dK:T<=vc:=by omega
 have cN:=hid aS;have ck:=hid aU;clear r ca aS aU hX cP ci;refine qE (n:=14) (w0:=O) (B:=O.heap.size) [.v 105 (.agg t.c),.v 106 (.agg #[.int .u64 zs.length,.int .u64 L,.slice qa SS.length qc]),.v 107 (.slice va zs.length vc),.z 108 bs 2,.v 109 (.int .u64 F),.z 110 bs 3,.v 111 (.int .u64 T),.v 112 (.slice A (T - F) (vc - F)),.p 113 (PairO O.heap.size (X)),.p 104 (PairO O.heap.size (X)),.p 114 (BytO O.heap.size (X)),.v 115 (.int .i64 0),.p 23 (BytO O.heap.size (X)),.v 24 (.int .i64 0)] (by exact⟨(fun _ _ _ h hb=>h.below hb),(fun _ _ _ h hb=>h.below hb),(fun _ _ _ h hb=>h.below hb),(fun _ _ _ h hb=>h.below hb),trivial⟩) Br.drew Nl ?_ ?_
 ·repeat' (with_reducible first|exact qz|refine qx ?_ ?_)
  ·intro AA x W r I S o D K J;have a4:=r.2 4 (by decide);conv at a4=>rhs;whnf
   clear o r;exact wp_load_row 26 _ rfl G a4 _ _ _ _ (qf ay I) Tryz.underlying26 rfl (by kernel_rfl) (J _ _ Br rfl)
  ·intro AA x W r I S o D K J;have a4:=r.2 21 (by decide);conv at a4=>rhs;whnf
   clear o r;exact wp_load_row 55 _ rfl bQ a4 _ _ _ _ (qf bb I) Tryz.underlying55 rfl (by kernel_rfl) (J _ _ Br rfl)
  all_goals try
   intro AA x W r I S o D K J;have bE:=r.2 14 (by decide);conv at bE=>rhs;whnf
   have bD:=r.2 1 (by decide);conv at bD=>rhs;whnf
   simp only[QS,yc]at D;clear o r;first
   | go_simp
     exact J _ _ BR rfl
   | have y0:W.cell? ⟨bs,2,none⟩=some (.int .u64 F):=qd (qf ah I) 2
     have y1:W.cell? ⟨bs,3,none⟩=some (.int .u64 T):=qd (qf ah I) 3;have y2:bs<W.heap.size:=by omega
     go_simp
     exact J _ _ BR rfl
  ·intro AA x W r I S o _ K J;have db:=gv r o 2 107;have dt:=gv r o 4 109;have c9:=gv r o 6 111;clear o r;go_simp
   rw[cL.out];exact J _ _ BR rfl
  ·intro AA x W r I S o _ K J;have dk:=gv r o 0 105;have dy:=gv r o 1 106;have de:=gv r o 7 112;clear o r;go_simp
   refine(cN.out W I).mono ?_;rintro e w8 ⟨u8,rfl,ap,ae⟩;exact J _ _ ae ⟨u8,rfl,ap.le S⟩
  ·intro AA x W r I S o _ K J;have bu:=gp r o 8 113;clear o r;obtain⟨u8,bu,ap⟩:=bu;go_simp
   exact J _ _ BR ⟨u8,rfl,ap⟩
  ·intro AA x W r I S o _ K J;have aD:=gp r o 9 104;clear o r;obtain⟨u8,aD,ap⟩:=aD;go_simp
   exact J _ _ BR ap
  ·intro AA x W r I S o _ K J;have aD:=gp r o 9 104;clear o r;obtain⟨u8,aD,ap⟩:=aD;go_simp
   exact J _ _ BR rfl
  ·intro AA x W r I S o _ K J;have cQ:=gp r o 10 114;clear o r;obtain⟨u9,dx⟩:=Ex (AA.tmps.getD 114 undef);rw[dx]at cQ;go_simp
   exact J _ _ BR cQ
 intro x W I S c0;obtain⟨-, -, -,aF, -⟩:=c0;change OwnB O.heap.size W (x 23) X at aF
 obtain⟨xa,xc,bM, -, -⟩:=aF.hold.slice;refine qw ?_;simp only[QG,Act.put,Ls,bM];rw[bM]at aF;have cA:=qf ay I;have bX:=qf bb I;have aI:=qf ah I;have cw:=Hm am I (by omega);have cn:=hid aF.hold;have ch:=hid (az.out.below I);have bR:=hid (fun(W':World) (h:Below W.heap.size W W')=>ck.out W' (I.trans (h.mono S)));have dL:G<W.heap.size:=by omega
 have dI:bs<W.heap.size:=by omega
 have bS:(X=D/\(if X=D then(0:Int) else 110)=0)\/(X≠D/\(if X=D then(0:Int) else 110)=110):=by
  by_cases h:X=D
  ·exact .inl ⟨h,if_pos h⟩
  ·exact .inr ⟨h,if_neg h⟩
 obtain⟨cc,cu⟩: ∃cc,(if X=D then(0:Int) else 110)=cc:=⟨_,rfl⟩;rw[cu]at bS bR;have c7:=hid bS;clear aF bM I cN ck ay bb ah am az aA aL bS cu cZ cd ce S;go_upto_region 21 with(fail)
 refine qE (n:=11) (w0:=W) (B:=W.heap.size) [.v 116 (.agg t.c),.v 117 (.agg #[.int .u64 zs.length,.int .u64 L,.slice qa SS.length qc]),.v 118 (.slice va zs.length vc),.z 119 bs 2,.v 120 (.int .u64 F),.z 121 bs 3,.v 122 (.int .u64 T),.v 123 (.slice A (T - F) (vc - F)),.v 124 (.slice bT D.length bz),.v 125 (.int .i64 cc),.v 25 (.int .i64 cc)] trivial Br.drew Nl ?_ ?_
 ·repeat' (with_reducible first|exact qz|refine qx ?_ ?_)
  ·intro AA x W r I S o D K J;have a4:=r.2 4 (by decide);conv at a4=>rhs;whnf
   clear o r;exact wp_load_row 26 _ rfl G a4 _ _ _ _ (qf cA I) Tryz.underlying26 rfl (by kernel_rfl) (J _ _ Br rfl)
  ·intro AA x W r I S o D K J;have a4:=r.2 21 (by decide);conv at a4=>rhs;whnf
   clear o r;exact wp_load_row 55 _ rfl bQ a4 _ _ _ _ (qf bX I) Tryz.underlying55 rfl (by kernel_rfl) (J _ _ Br rfl)
  all_goals try
   intro AA x W r I S o D K J;have bE:=r.2 14 (by decide);conv at bE=>rhs;whnf
   have bD:=r.2 1 (by decide);conv at bD=>rhs;whnf
   have di:=r.2 16 (by decide);conv at di=>rhs;whnf
   simp only[QS,yc]at D;clear o r;first
   | go_simp
     exact J _ _ BR rfl
   | have y0:W.cell? ⟨bs,2,none⟩=some (.int .u64 F):=qd (qf aI I) 2
     have y1:W.cell? ⟨bs,3,none⟩=some (.int .u64 T):=qd (qf aI I) 3;have y2:bs<W.heap.size:=by omega
     go_simp
     exact J _ _ BR rfl
  ·intro AA x W r I S o _ K J;have db:=gv r o 2 118;have dt:=gv r o 4 120;have c9:=gv r o 6 122;clear o r;go_simp
   rw[cL.out];exact J _ _ BR rfl
  ·intro AA x W r I S o _ K J;have dk:=gv r o 0 116;have dy:=gv r o 1 117;have de:=gv r o 7 123;have bu:=gv r o 8 124;clear o r;go_simp
   refine(bR.out W I).mono ?_;rintro e w8 ⟨rfl,ae⟩;exact J _ _ ae rfl
 intro y Y hY d7 _;refine qw ?_;simp only[QG,Act.put,Ls];have bj:=hid (cn.out.below hY);have bL:=hid (ch.out.below hY);have cb:=Hm cw hY (by omega);clear hY cn ch cw cA bX aI bR;go_wp2_with fail
 refine(qfg X D _ _ Y bj.out bL.out).mono ?_;rintro e Y2 ⟨rfl,mm,rfl⟩;have be:=below_draws Y.heap.size Y mm;have c6:=hid (bj.out.below be);have cV:=hid (bL.out.below be);have bW:=hid (cb.out.trans (be.mono (by have:=cb.out.size;omega)));clear be bj bL cb;generalize Y.drewN mm=Y2 at*;rcases c7.out with⟨h1,h2⟩|⟨h1,h2⟩
 ·rw[decide_eq_true h1];clear h1;subst h2;go_wp2_with fail
  go_ret
  exact⟨rfl,by rw[aa];exact bW.out⟩
 ·rw[decide_eq_false h1];have dh:=hid h1;clear h1;subst h2;go_wp2_with fail
  refine(qfg X D _ _ Y2 c6.out cV.out).mono ?_;rintro e Y3 ⟨rfl,mm,rfl⟩;have c5:=hid (bW.out.trans (below_draws G Y2 mm));rw[decide_eq_false dh.out];go_wp2_with fail
  go_ret
  exact⟨rfl,by rw[aa];exact c5.out⟩
end Go.Proofs.YtahenngmaoellaaGreat
namespace Go.Proofs.YtahenngmaoellaaGreat
open Go.ChangeShapes Go.WideShapes Go.ChangeAt Go.RowKit Go.Joins Go.Shelf Go.Maps
open Go.Lib (hid)
theorem qe6 {H:Type}{enc:TypeId×Value->H}{w:World}{base I:Nat}{r:Reach}{o:Nat->Bool}{q:Bool}{v:Value}{d:DataW H}{G:List MemPlace}
  (J:Value.okWide Tryz.prog w r I 93 v) (h:DataW.Trod enc Tryz.prog w base o q 93 v d G):
  ∃n,v= .int .u16 n/\0<=n/\n<=65535:=by
 obtain⟨x,rfl,rfl,rfl,D⟩:=open_int Tryz.underlying93 J h;exact⟨x,rfl,bounds_u16 D⟩
theorem qbs {H:Type}(enc:TypeId×Value->H)(W:World)(base:Nat)(args:Array Value)(ds:List (DataW H))(p:List MemPlace)
  (o: ∀(j:Nat) t v,Tryz.f10.params[j]? =some t->args[j]? =some v->Value.okWide Tryz.prog W .any base t v)
  (O:DataW.TrodAll enc Tryz.prog W 0 (fun _=>true) true Tryz.f10.params.toList args.toList ds p) (D: ∀x∈p,x.block<W.heap.size)
  (Z:Rows.uptoSmall H ds=true):
  Calls Tryz.prog 10 args W (qhl W):=by
 rw[Tryz.params10]at O o;obtain⟨X,J,v2,Y,d0,d1,d2,d3,p0,p1,p2,p3,rfl,rfl,rfl,h0,h1,h2,S⟩:=trodAll_four O;have hb:Rows.uptoBulk d0+(Rows.uptoBulk d1+(Rows.uptoBulk d2+(Rows.uptoBulk d3+0)))<=1048576:=of_decide_eq_true Z;obtain⟨t,kz,z1,z2,rfl,U,ht,b1,b2,b3⟩:=qgq (o 0 26 X rfl rfl) h0 (fun x G=>D x (by simp[G]));obtain⟨zs,I,ab⟩:=qe7 (o 1 24 J rfl rfl) h1 (fun x G=>D x (by simp[G]));obtain⟨r,rfl,ac⟩:=qe6 (o 2 93 v2 rfl rfl) h2;obtain⟨nr,rfl⟩: ∃n:Nat,r=n:=⟨r.toNat,by omega⟩;obtain⟨q,rfl,aa⟩:=qe6 (o 3 93 Y rfl rfl) S;obtain⟨V,rfl⟩: ∃n:Nat,q=n:=⟨q.toNat,by omega⟩;exact qbr t kz z1 z2 zs nr V (by omega) (by omega) U J W ht I (by omega)
abbrev SP:=Rows.OpenSpec.upto Rows.pathOthersSpec
theorem J1 (J:Os)(o:J.Started)(H:Type)(enc:TypeId×Value->H)(I:Stop.Interp):
  ReturnsInHanded {} Tryz.checked J 10 .any (SP.pre6 enc Tryz.prog Tryz.f10 Rows.pathOthersUptoRow.domain false) ((SP.at I).post enc Tryz.prog Tryz.f10 false true false false):=by
 refine returnsInHanded_of_cond_sized (C:=Tryz.checked) (s:=SP) (k:=Rows.uptoSmall) rfl own o (by kernel_rfl) Tryz.func10
  (OpenSpec.witness (enc:=enc) (C:=Tryz.checked) (s:=SP) (k:=Rows.uptoSmall) rfl false ⟨#[],#[.agg #[.int .i64 0,.int .i64 0,.int .i64 0,.int .i64 0,.int .u32 0,.int .i64 0,.slice none 0 0,.slice none 0 0,.slice none 0 0],.slice none 0 0,.int .u16 0,.int .u16 0],[]⟩ 40 (by kernel_rfl) (by kernel_rfl) (by kernel_rfl)
   (x:=([.agg [.lit (.int .i64 0),.lit (.int .i64 0),.lit (.int .i64 0),.lit (.int .i64 0),.lit (.int .u32 0),.lit (.int .i64 0),.nil,.nil,.nil],.nil,.lit (.int .u16 0),.lit (.int .u16 0)],[],[])) (by kernel_rfl) (by kernel_rfl) (by kernel_rfl)) ?_
 intro W base args ds gs O r X Y hk hz _;have G:=X;obtain⟨p,q,V,Z,rfl,aa,ab⟩:=X;have U:DataW.TrodAll enc Tryz.prog W 0 (fun _=>true) true Tryz.f10.params.toList args.toList ds p:=V;obtain⟨rfl,rfl⟩:=trodVars_none Z;have S:Rows.uptoSmall H ds=true:=by rw[<-List.append_nil ds];exact hk
 refine(qbs enc W base args ds p r U (fun x hx=>G.lt x (by simpa using hx)) S).mono fun e W' h=>⟨_,h.1,?_⟩
 refine qcS (s:=SP.at I) qjW _ rfl Tryz.underlying4 (by decide+kernel) rfl G ?_ h.2;have D:=U;rw[Tryz.params10]at D;obtain⟨v0,v1,v2,v3,d0,d1,d2,d3,p0,p1,p2,p3,rfl,rfl,_⟩:=trodAll_four D;rfl
theorem pathOthers_holds:Rows.PathOthersUptoSaid:=
 OpenClaim.holds_of_cond 10 Tryz.f10 rfl rfl rfl rfl rfl rfl rfl ⟨rfl,rfl,rfl,rfl,rfl⟩ rfl rfl rfl rfl rfl (by kernel_rfl) Tryz.func10 (by kernel_rfl)
  (of_decide_eq_true (by kernel_rfl)) (by unfold Func.isWrapper;first|(rw[if_pos (by decide+kernel)];kernel_rfl)|(rw[if_neg (by decide+kernel)];exact⟨rfl,rfl⟩))
  (fun q o H enc _ r=>by rw[OpenClaim.pre_of_none' rfl];exact J1 q o H enc r)
