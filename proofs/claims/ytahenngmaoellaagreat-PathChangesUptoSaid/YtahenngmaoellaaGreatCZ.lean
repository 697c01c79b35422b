/- Lists of digests in memory of their own, each list and each digest for itself. No condition. -/
import Derived.Test.YtahenngmaoellaaGreatC37
import Derived.Test.YtahenngmaoellaaGreatC41
import Derived.Test.YtahenngmaoellaaGreatC42
import Derived.Test.YtahenngmaoellaaGreatC44
import Derived.Test.YtahenngmaoellaaGreatC45
import Derived.Test.YtahenngmaoellaaGreatC46
import Derived.Test.YtahenngmaoellaaGreatC43
import Derived.Deep.CondSized
import Derived.JoinedCond
set_option linter.all false
set_option maxRecDepth 100000
set_option maxHeartbeats 8000000
namespace Go.Proofs.YtahenngmaoellaaGreat
open Go.ChangeShapes Go.WideShapes Go.ChangeAt Go.RowKit Go.Joins Go.Shelf Go.Maps
open Go.Lib (hid)
attribute [local go_sem] Oper.semAt_some
def DigV (B:Nat)(W:World)(v:Value)(L:List (List Int))(ds:List Value):Prop:=
 W.ownsRow B 24 1 v L.length ds∧ ∀j,j<L.length→OwnB B W (ds.getD j undef) (qz L j)
def dgV (DS:List (List Value))(a i:Nat):Value:=(DS.getD a []).getD i undef
theorem DigV.len {B:Nat}{W:World}{v:Value}{L:List (List Int)}{ds:List Value}(h:DigV B W v L ds):ds.length=L.length:=by have:=h.1.1;simpa using this
theorem DigV.keep {B b:Nat}{W W':World}{v:Value}{L:List (List Int)}{ds:List Value}(h:DigV B W v L ds)(k:KB b W W')(hs: ∀g,v.ownBlock=some g→W'.heap[g]? =W.heap[g]?):DigV B W' v L ds:=
 ⟨QV h.1 hs,fun j hj=>(h.2 j hj).kb k⟩
theorem qfp {B:Nat}{W:World}{v:Value}{z:List Int}(h:OwnB B W v z): ∀g,v.ownBlock=some g→B≤g∧g<W.heap.size:=fun g hg=>by
 exact qdL h.2 g hg
structure ListsV (B:Nat)(W:World)(xs:List Value)(LL:List (List (List Int)))(DS:List (List Value)):Prop where
 lx:xs.length=LL.length
 ld:DS.length=LL.length
 each: ∀a,a<LL.length→DigV B W (xs.getD a undef) (LL.getD a []) (DS.getD a [])
 ax: ∀a b g,a≠b→(xs.getD a undef).ownBlock=some g→(xs.getD b undef).ownBlock≠some g
 ad: ∀a i b j g,(a≠b∨i≠j)→(dgV DS a i).ownBlock=some g→(dgV DS b j).ownBlock≠some g
namespace ListsV
variable {B:Nat} {W W':World} {xs:List Value} {LL:List (List (List Int))} {DS:List (List Value)}
theorem xlt (h:ListsV B W xs LL DS): ∀a g,(xs.getD a undef).ownBlock=some g→B≤g∧g<W.heap.size:=fun a g hg=>by
 by_cases ha:a<LL.length
 ·exact⟨yP (h.each a ha).1 g hg,qM (h.each a ha).1 g hg⟩
 ·rw[Lg,List.getElem?_eq_none (by have:=h.lx;omega)]at hg
  cases hg
theorem dlt (h:ListsV B W xs LL DS): ∀a i g,(dgV DS a i).ownBlock=some g→B≤g∧g<W.heap.size:=fun a i g hg=>by
 unfold dgV at hg;by_cases ha:a<LL.length
 ·by_cases hi:i<(LL.getD a []).length
  ·exact qfp ((h.each a ha).2 i hi) g hg
  ·rw[Lg (l:=DS.getD a []),List.getElem?_eq_none (by rw[(h.each a ha).len];omega)]at hg
   cases hg
 ·rw[Lg (l:=DS),List.getElem?_eq_none (by have:=h.ld;omega)]at hg;simp at hg
  cases hg
theorem keep {b:Nat}(h:ListsV B W xs LL DS)(k:KB b W W')(hs: ∀a g,(xs.getD a undef).ownBlock=some g→W'.heap[g]? =W.heap[g]?):ListsV B W' xs LL DS:=
 ⟨h.lx,h.ld,fun a ha=>(h.each a ha).keep k (hs a),h.ax,h.ad⟩
theorem below (h:ListsV B W xs LL DS)(hb:Below W.heap.size W W'):ListsV B W' xs LL DS:=
 h.keep (KB.of_below hb (Nat.zero_le _)) fun a g hg=>hb.block g (h.xlt a g hg).2
theorem off {g:Nat}{c:Array Value}{T:TypeId}{fr:Nat×Nat}(h:ListsV B W xs LL DS)(hg:W.heap[g]? =some (.cells c T fr))(h1:T≠24)(h2:T≠5)(hb:But g W W'):ListsV B W' xs LL DS:=
 h.keep (KB.of_but hb (Nat.zero_le _) (Nat.zero_le _) hg h2) fun a k hk=>by
  refine hb.block k (h.xlt a k hk).2 ?_;by_cases ha:a<LL.length
  ·exact yO (h.each a ha).1 hg h1 k hk
  ·rw[Lg,List.getElem?_eq_none (by have:=h.lx;omega)]at hk
   cases hk
theorem xoff {g:Nat}{c:Array Value}{T:TypeId}{fr:Nat×Nat}(h:ListsV B W xs LL DS)(hg:W.heap[g]? =some (.cells c T fr))(h1:T≠24): ∀a k,(xs.getD a undef).ownBlock=some k→k≠g:=fun a k hk=>by
 by_cases ha:a<LL.length
 ·exact yO (h.each a ha).1 hg h1 k hk
 ·rw[Lg,List.getElem?_eq_none (by have:=h.lx;omega)]at hk
  cases hk
theorem nil (B:Nat)(W:World):ListsV B W [] [] []:=⟨rfl,rfl,(fun a ha=>by simp at ha),(fun a b g _ hg=>by rw[show([]:List Value).getD a undef=undef from rfl]at hg;cases hg),(fun a i b j g _ hg=>by rw[show dgV [] a i=undef from rfl]at hg;cases hg)⟩
theorem le {b:Nat}(h:ListsV B W xs LL DS)(hb:b≤B):ListsV b W xs LL DS:=⟨h.lx,h.ld,fun a ha=>⟨ownsRow_le (h.each a ha).1 hb,fun j hj=>((h.each a ha).2 j hj).le hb⟩,h.ax,h.ad⟩
theorem more (h:ListsV B W xs LL DS):ListsV B W (xs++[Value.slice none 0 0]) (LL++[[]]) (DS++[[]]):=by
 have hx: ∀a,((xs++[Value.slice none 0 0]).getD a undef).ownBlock=(xs.getD a undef).ownBlock:=fun a=>by
  rw[qQ];split
  ·rfl
  ·rw[Lg,List.getElem?_eq_none (by omega)];split<;>rfl
 have hd: ∀a,(DS++[[]]).getD a []=DS.getD a []:=fun a=>by
  rw[qQ];split
  ·rfl
  ·rw[Lg,List.getElem?_eq_none (by omega)];split<;>rfl
 have hdg: ∀a i,dgV (DS++[[]]) a i=dgV DS a i:=fun a i=>by unfold dgV;rw[hd]
 refine⟨by simp[h.lx],by simp[h.ld],fun a ha=>?_,fun a b g hab hg=>?_,fun a i b j g hab hg=>?_⟩
 ·rw[hd,qQ,qQ];by_cases h1:a<LL.length
  ·rw[if_pos h1,if_pos (by rw[h.lx];exact h1)];exact h.each a h1
  ·have h2:a=LL.length:=by simp at ha;omega
   subst h2;rw[if_neg h1,if_pos rfl,if_neg (by rw[h.lx];exact h1),if_pos h.lx.symm,Lg,List.getElem?_eq_none (by have:=h.ld;omega)];exact⟨Wo _ _ _ _,fun j hj=>by simp at hj⟩
 ·rw[hx]at hg⊢;exact h.ax a b g hab hg
 ·rw[hdg]at hg⊢;exact h.ad a i b j g hab hg
theorem put {a:Nat}{v' x:Value}{z:List Int}(h:ListsV B W xs LL DS)(ha:a<LL.length)(hn:W'.ownsRow B 24 1 v' ((LL.getD a []).length+1) (DS.getD a []++[x]))(hz:OwnB B W x z)(hk:KB B W W')(hsp:Spare (fun k=>(xs.getD a undef).ownBlock≠some k) W W')
  (hat:v'.ownBlock=(xs.getD a undef).ownBlock∨ ∀g,v'.ownBlock=some g→W.heap.size≤g) (hnew: ∀g,x.ownBlock=some g→ ∀b j,(dgV DS b j).ownBlock≠some g):ListsV B W' (xs.set a v') (LL.set a (LL.getD a []++[z])) (DS.set a (DS.getD a []++[x])):=by
 have hl:=(h.each a ha).len;have hax:a<xs.length:=by rw[h.lx];exact ha
 have had:a<DS.length:=by rw[h.ld];exact ha
 have hdg: ∀b i,dgV (DS.set a (DS.getD a []++[x])) b i=if a=b∧i=(DS.getD a []).length then x else dgV DS b i:=fun b i=>by
  unfold dgV;rw[Y1 _ _ _ _ _ had];by_cases hab:a=b
  ·subst hab;rw[if_pos rfl,qQ];by_cases h1:i<(DS.getD a []).length
   ·rw[if_pos h1,if_neg (fun e=>by omega)]
   ·rw[if_neg h1];by_cases h2:i=(DS.getD a []).length
    ·rw[if_pos h2,if_pos ⟨rfl,h2⟩]
    ·rw[if_neg h2,if_neg (fun e=>h2 e.2),Lg (l:=DS.getD a []),List.getElem?_eq_none (by omega)];rfl
  ·rw[if_neg hab,if_neg (fun e=>hab e.1)]
 refine⟨by simp[h.lx],by simp[h.ld],fun b hb=>?_,fun b c g hbc hg=>?_,fun b i c j g hbc hg=>?_⟩
 ·rw[List.length_set]at hb;rw[Y1 _ _ _ _ _ hax,Y1 _ _ _ _ _ ha,Y1 _ _ _ _ _ had];by_cases hab:a=b
  ·subst hab;rw[if_pos rfl,if_pos rfl,if_pos rfl];refine⟨by rw[List.length_append,List.length_singleton];exact hn,fun j hj=>?_⟩;rw[List.length_append,List.length_singleton]at hj;unfold qz;rw[qQ,qQ,hl];by_cases h1:j<(LL.getD a []).length
   ·rw[if_pos h1,if_pos h1];exact((h.each a ha).2 j h1).kb hk
   ·rw[if_neg h1,if_neg h1,if_pos (by omega),if_pos (by omega)];exact hz.kb hk
  ·rw[if_neg hab,if_neg hab,if_neg hab];refine(h.each b hb).keep hk fun g hg=>hsp.block g (h.xlt b g hg).2 fun e=>h.ax a b g hab e hg
 ·have key: ∀e g,((xs.set a v').getD e undef).ownBlock=some g→(a=e∧v'.ownBlock=some g)∨(a≠e∧(xs.getD e undef).ownBlock=some g):=fun e g he=>by
   rw[Y1 _ _ _ _ _ hax]at he;by_cases hab:a=e
   ·rw[if_pos hab]at he;exact .inl ⟨hab,he⟩
   ·rw[if_neg hab]at he;exact .inr ⟨hab,he⟩
  intro hc;rcases key b g hg with⟨rfl,k1⟩|⟨k1,k2⟩<;>rcases key c g hc with⟨rfl,k3⟩|⟨k3,k4⟩
  ·exact hbc rfl
  ·rcases hat with hat|hat
   ·rw[hat]at k1;exact h.ax a c g k3 k1 k4
   ·have:=hat g k1;have:=(h.xlt c g k4).2;omega
  ·rcases hat with hat|hat
   ·rw[hat]at k3;exact h.ax a b g k1 k3 k2
   ·have:=hat g k3;have:=(h.xlt b g k2).2;omega
  ·exact h.ax b c g hbc k2 k4
 ·rw[hdg]at hg⊢;by_cases h1:a=b∧i=(DS.getD a []).length
  ·rw[if_pos h1]at hg;rw[if_neg (fun e=>by rcases hbc with q|q;exact q (h1.1.symm.trans e.1);exact q (h1.2.trans e.2.symm))];exact hnew g hg c j
  ·rw[if_neg h1]at hg;by_cases h2:a=c∧j=(DS.getD a []).length
   ·rw[if_pos h2];exact fun e=>hnew g e b i hg
   ·rw[if_neg h2];exact h.ad b i c j g hbc hg
end ListsV
theorem RowsV.formP {B:Nat}{w:World}{v:Value}{vs:List Value}{LL:List (List (List Int))}(h:RowsV B w v vs LL): ∃a c,v= .slice a LL.length c∧(LL.length:Int)≤9223372036854775807:=by
 rcases h.1.2 with⟨rfl,e⟩|⟨g,cap,cur,rfl, -, -,h3,h4, -⟩
 ·exact⟨none,0,by rw[e],by omega⟩
 ·exact⟨_,_,rfl,by unfold maxLen at h4;omega⟩
theorem RowsV.getP {B i:Nat}{w:World}{lv:Value}{vs:List Value}{LL:List (List (List Int))}(h:RowsV B w lv vs LL)(hi:i<LL.length): ∃g cap,lv= .slice (some ⟨g,0,none⟩) LL.length cap∧g<w.heap.size∧w.cell? ⟨g,i,none⟩=some (vs.getD i undef):=by
 obtain⟨g,cap,e, -,h2,h3⟩:=qcp h.1 (by omega);refine⟨g,cap,e,h2,h3 i _ ?_⟩;have:=h.len
 rw[Lg,List.getElem?_eq_getElem (by omega)];rfl
theorem j6 {ops:Array Oper}{rest:List Oper}{o:Oper}{a:Act}{Q:Exit→Act→World→Prop}{W:World}(hgd:o.guard=none)(s x:Operand)
  (ho:o.op= .call { callee:= .builtin .append,args:= #[s,x],argTypes:= #[67,67] }) (B:Nat) (v:Value) (n:Nat) (ds:List Value) (u:Value) (hs:a.eval s=v) (hown:W.ownsRow B 24 1 v n ds) (hu:u.oneCell'=true)
  (hx:a.eval x= .slice (some ⟨W.heap.size,0,none⟩) 1 1) (h63:n≤8388608) (hB:B≤W.heap.size)
  (h: ∀v' w',w'.ownsRow B 24 1 v' (n+1) (ds++[u])→KB B W w'→Spare (fun k=>v.ownBlock≠some k) W w'→(v'.ownBlock=v.ownBlock∨ ∀g,v'.ownBlock=some g→W.heap.size≤g)→wpList Tryz.prog ops Q rest (a.put o.dst v') w'):wpList Tryz.prog ops Q (o::rest) a (W.alloc (.cells #[u] 24)):=by
 obtain⟨ib,hib,hzb,hsb,hbb⟩:=info_parts yJ;refine wpList_append_own_at _ hgd s x _ ho B 24 ib (.slice none 0 0) 1 24 Tryz.underlying67 hib hzb hsb hbb rfl (by decide) v n ds hs (hown.alloc _) ⟨W.heap.size,0,none⟩ 1 1 [u] hx rfl (cell_one_new W u _) (by simpa using hu) (by unfold maxLen;omega) (by omega) (by simp;omega) fun v' w' h2 h3 _ h5=>?_
 have hsp:Spare (fun k=>v.ownBlock≠some k) W w':=(Spare.of_below _ (Br.alloc Nl _)).trans (Spare.of_grown h3) (fun _ _ h=>h);have hkb:KB B W w':=⟨hsp.os,hsp.tape,hsp.output,hsp.size,fun k hk=>hsp.block k (by omega) (fun e2=>by have:=yP hown k e2;omega),fun k c hc=>by
   rw[hsp.block k (Ai hc).1 (fun e2=>?_)]
   ·exact hc
   ·obtain⟨c2,h8⟩:=Yu hown k e2;rw[h8]at hc;simp only[Option.some.injEq,Obj.cells.injEq]at hc;exact absurd hc.2.1 (by decide)⟩
 refine h v' w' h2 hkb hsp ?_;rcases h5 with h5|h5
 ·exact .inl h5
 ·exact .inr fun g hg=>by rw[h5]at hg;simp only[World.alloc,Array.size_push,Option.some.injEq]at hg;omega
end Go.Proofs.YtahenngmaoellaaGreat
namespace Go.Proofs.YtahenngmaoellaaGreat
open Go.ChangeShapes Go.WideShapes Go.ChangeAt Go.RowKit Go.Joins Go.Shelf Go.Maps
open Go.Lib (hid)
theorem qbU (L:List (List Int)): ∀k,k≤L.length→yl L k=(L.take k).flatten
 | 0,_=>rfl
 | k+1,h=>by
  have e:Yf L k=qz L k:=rfl;rw[jb (by omega),yl,qbU L k (by omega),e]
theorem qdd (L:List (List Int)):yl L L.length=L.flatten:=by rw[qbU L _ Nl,List.take_length]
def TreeV.stepZ (t:TreeV)(kz z1 z2 zs:List Int)(leaf k:Nat):yr:=
 (((t.lvlZ kz z1 z2 (t.leafZ kz z1 z2 zs) k).drop (qw t zs.length leaf (k+1)).frm).take (Qr t.fn (t.rowsOf zs.length) leaf k - (qw t zs.length leaf (k+1)).frm),
  ((t.lvlZ kz z1 z2 (t.leafZ kz z1 z2 zs) k).drop (Qr t.fn (t.rowsOf zs.length) leaf k+1)).take ((qw t zs.length leaf (k+1)).to_ - Qr t.fn (t.rowsOf zs.length) leaf k - 1))
def TreeV.stepsZ (t:TreeV)(kz z1 z2 zs:List Int)(leaf m:Nat):List yr:=(List.range m).map (t.stepZ kz z1 z2 zs leaf)
theorem Y7 (t:TreeV)(kz z1 z2 zs:List Int)(leaf:Nat){m k:Nat}(h:k<m):Yn (t.stepsZ kz z1 z2 zs leaf m) k=t.stepZ kz z1 z2 zs leaf k:=by
 unfold Yn TreeV.stepsZ;rw[Lg,List.getElem?_map,List.getElem?_range h];rfl
theorem yV (t:TreeV)(kz z1 z2 zs:List Int)(leaf m:Nat):(t.stepsZ kz z1 z2 zs leaf m).length=m:=by simp[TreeV.stepsZ]
theorem qhd {X Y:List (List Int)}{a at_ b:Nat}(h1:a≤at_)(h2:at_<b)(h3:b≤Y.length)(h: ∀k,k≠at_→X[k]? =Y[k]?):
  ((X.drop a).take (at_ - a)).flatten++qz Y at_++((X.drop (at_+1)).take (b - at_ - 1)).flatten=((Y.drop a).take (b - a)).flatten:=by
 have e1:(X.drop a).take (at_ - a)=(Y.drop a).take (at_ - a):=by
  refine List.ext_getElem? fun j=>?_
  rw[List.getElem?_take,List.getElem?_take];split
  ·rw[List.getElem?_drop,List.getElem?_drop,h _ (by omega)]
  ·rfl
 have e2:(X.drop (at_+1)).take (b - at_ - 1)=(Y.drop (at_+1)).take (b - at_ - 1):=by
  refine List.ext_getElem? fun j=>?_
  rw[List.getElem?_take,List.getElem?_take];split
  ·rw[List.getElem?_drop,List.getElem?_drop,h _ (by omega)]
  ·rfl
 have e3:(Y.drop a).take (b - a)=(Y.drop a).take (at_ - a)++(qz Y at_::(Y.drop (at_+1)).take (b - at_ - 1)):=by
  have q1:b - a=(at_ - a)+(b - at_):=by omega
  have q2:b - at_=(b - at_ - 1)+1:=by omega
  rw[q1,List.take_add,List.drop_drop,show a+(at_ - a)=at_ by omega,List.drop_eq_getElem_cons (show at_<Y.length by omega),q2,List.take_succ_cons];simp only[Nat.add_sub_cancel];congr 2
  unfold qz;rw[Lg,List.getElem?_eq_getElem (by omega)];rfl
 rw[e1,e2,e3,List.flatten_append,List.flatten_cons,List.append_assoc]
theorem qbM {t:TreeV}(h:t.validE=0)(hl:0≤t.l∧t.l≤4294967295)(kz z1 z2 zs ys:List Int)(hyz:ys.length=zs.length)(hn:zs.length≤4194304){leaf:Nat}(hleaf:leaf<nth (t.rowsOf zs.length) 0)
  (hs: ∀k,k≠leaf→qz (QH t.ln ys) k=qz (QH t.ln zs) k) (m:Nat) (hm:(t.rowsOf zs.length).length=m+1): ∀r,r<(t.rowsOf zs.length).length→
  (t.lvlZ kz z1 z2 (t.leafZ kz z1 z2 ys) r).length=(t.lvlZ kz z1 z2 (t.leafZ kz z1 z2 zs) r).length∧
  (∀k,k≠Qr t.fn (t.rowsOf zs.length) leaf r→(t.lvlZ kz z1 z2 (t.leafZ kz z1 z2 zs) r)[k]? =(t.lvlZ kz z1 z2 (t.leafZ kz z1 z2 ys) r)[k]?)∧
  t.pathR kz z1 z2 zs.length leaf (t.stepsZ kz z1 z2 zs leaf m) (qz (QH t.ln ys) leaf) r=qz (t.lvlZ kz z1 z2 (t.leafZ kz z1 z2 ys) r) (Qr t.fn (t.rowsOf zs.length) leaf r):=by
 have he:=yA h hn;have hR:=qA he;have hLz:=Qb h hl kz z1 z2 zs;have hLy:=Qb h hl kz z1 z2 ys;have hln:1≤t.ln:=by
  have:=(qk h).2.2.2.2.2.2.2.2.1
  unfold TreeV.ln;omega
 have hcy:=Y2 ys hln;have hcz:=Y2 zs hln;have h0z:=Yg h hl kz z1 z2 zs;have h0y:=Yg h hl kz z1 z2 ys;rw[hyz]at hcy h0y;have hget: ∀{L M:List (List Int)},L.length=M.length→ ∀{i:Nat},qz L i=qz M i→L[i]? =M[i]? :=by
  intro L M hLM i hi;by_cases hc:i<L.length
  ·unfold qz at hi;rw[Lg,Lg,List.getElem?_eq_getElem hc,List.getElem?_eq_getElem (by omega)]at hi;rw[List.getElem?_eq_getElem hc,List.getElem?_eq_getElem (by omega)];exact congrArg some hi
  ·rw[List.getElem?_eq_none (by omega),List.getElem?_eq_none (by omega)]
 intro r;induction r with
 | zero=>
  intro hr;refine⟨by show(t.leafZ kz z1 z2 ys).length=(t.leafZ kz z1 z2 zs).length;omega,fun k hk=>?_,?_⟩
  ·refine hget (by show(t.leafZ kz z1 z2 zs).length=(t.leafZ kz z1 z2 ys).length;omega) ?_;show qz (t.leafZ kz z1 z2 zs) k=qz (t.leafZ kz z1 z2 ys) k
   unfold TreeV.leafZ;by_cases hc:k<(QH t.ln zs).length
   ·rw[yp _ _ _ _ _ _ _ hc,yp _ _ _ _ _ _ _ (by omega),hs k hk,hcy,hcz]
   ·unfold qz;rw[Lg,Lg,List.getElem?_eq_none (by rw[TreeV.rowZ_length];omega),List.getElem?_eq_none (by rw[TreeV.rowZ_length];omega)]
  ·show t.giveZ kz z1 z2 (qw t zs.length leaf 0) (qz (QH t.ln ys) leaf)=qz (t.leafZ kz z1 z2 ys) leaf
   have hlf:=hleaf;rw[hR.first]at hlf;unfold TreeV.leafZ;rw[yp _ _ _ _ _ _ _ (by omega),hcy];unfold qw Qr TreeV.giveZ;have hn0: ¬(1≤0∧nth (t.rowsOf zs.length) 0=1):=by omega
   by_cases h2:leaf=nth (t.rowsOf zs.length) 0 - 1
   ·rw[yM hn0 h2];rw[hR.first]at h2;rw[decide_eq_true (by omega)]
   ·rw[Yk hn0 h2];rw[hR.first]at h2;rw[decide_eq_false (by omega)]
 | succ r ih=>
  intro hr;obtain⟨i1,i2,i3⟩:=ih (by omega);have hA:=yC hR hleaf (r+1) hr;have hch:=J1 hR hr (yC hR hleaf r (by omega));have hlz:=QP he kz z1 z2 h0z hLz.2.2;have hly:=QP he kz z1 z2 h0y hLy.2.2;obtain⟨Ly,hLy0⟩:=Ex (t.lvlZ kz z1 z2 (t.leafZ kz z1 z2 ys) r);obtain⟨Lz,hLz0⟩:=Ex (t.lvlZ kz z1 z2 (t.leafZ kz z1 z2 zs) r);have hlr:=hly r (by omega);have hup:=YB h (row:=r+1) (by omega) (L:=Ly) (by rw[←hLy0];exact(Qa h kz z1 z2 hLy.1 hLy.2.2 r).1);have hnx:=hR.next r hr;rw[hLy0]at hlr;rw[hlr,←hnx]at hup;obtain⟨D,hD⟩:=Ex (t.upZ (r+1) Ly);rw[hD]at hup;have hst:t.stepZ kz z1 z2 zs leaf r=((Lz.drop (qw t zs.length leaf (r+1)).frm).take (Qr t.fn (t.rowsOf zs.length) leaf r - (qw t zs.length leaf (r+1)).frm),(Lz.drop (Qr t.fn (t.rowsOf zs.length) leaf r+1)).take ((qw t zs.length leaf (r+1)).to_ - Qr t.fn (t.rowsOf zs.length) leaf r - 1)):=by unfold TreeV.stepZ;rw[hLz0]
  rw[hLy0,hLz0]at i1 i2;rw[hLy0]at i3;have ey:t.lvlZ kz z1 z2 (t.leafZ kz z1 z2 ys) (r+1)=t.rowZ kz z1 z2 (r+1) (t.rootZ (r+1) Ly.length) D D.length:=by
   show t.rowZ kz z1 z2 (r+1) (t.rootZ (r+1) (t.lvlZ kz z1 z2 (t.leafZ kz z1 z2 ys) r).length) (t.upZ (r+1) (t.lvlZ kz z1 z2 (t.leafZ kz z1 z2 ys) r)) (t.upZ (r+1) (t.lvlZ kz z1 z2 (t.leafZ kz z1 z2 ys) r)).length=_
   rw[hLy0,hD]
  have ez:t.lvlZ kz z1 z2 (t.leafZ kz z1 z2 zs) (r+1)=t.rowZ kz z1 z2 (r+1) (t.rootZ (r+1) Ly.length) (t.upZ (r+1) Lz) (t.upZ (r+1) Lz).length:=by
   show t.rowZ kz z1 z2 (r+1) (t.rootZ (r+1) (t.lvlZ kz z1 z2 (t.leafZ kz z1 z2 zs) r).length) (t.upZ (r+1) (t.lvlZ kz z1 z2 (t.leafZ kz z1 z2 zs) r)) (t.upZ (r+1) (t.lvlZ kz z1 z2 (t.leafZ kz z1 z2 zs) r)).length=_
   rw[hLz0,i1]
  have hul:(t.upZ (r+1) Lz).length=D.length:=by
   rw[←hD];unfold TreeV.upZ;rw[i1];split
   ·rw[List.length_singleton,List.length_singleton]
   ·rw[Qf,Qf]
  have hno: ∀k,k≠Qr t.fn (t.rowsOf zs.length) leaf (r+1)→qz (t.upZ (r+1) Lz) k=qz D k:=by
   intro k hk;rw[←hD];have hk2:k≠if nth (t.rowsOf zs.length) (r+1)=1 then 0 else Qr t.fn (t.rowsOf zs.length) leaf r/t.fn:=hk
   unfold TreeV.upZ;rw[←i1];by_cases hq:t.rootZ (r+1) Ly.length=true
   ·rw[if_pos hq,if_pos hq];rw[hlr]at hq;rw[if_pos (hup.2.1 hq)]at hk2;unfold qz;rw[Lg,Lg,List.getElem?_eq_none (by simp;omega),List.getElem?_eq_none (by simp;omega)]
   ·rw[if_neg hq,if_neg hq];have hqf:t.rootZ (r+1) Ly.length=false:=by simpa using hq
    have hfn:=zi h hqf;rw[hlr]at hq;rw[if_neg (fun e=>hq (hup.2.2 e))]at hk2;by_cases hkc:k<qH Ly.length t.fn
    ·simp only[qz,zZ,Lg,List.getElem?_map,List.getElem?_range hkc,Option.map_some,Option.getD_some];congr 1
     refine List.ext_getElem? fun j=>?_
     unfold piece;rw[List.getElem?_take,List.getElem?_take];split
     ·rename_i hj;rw[List.getElem?_drop,List.getElem?_drop];refine i2 _ fun e=>hk2 ?_
      rw[←e,Nat.mul_comm,Nat.mul_add_div (by omega),Nat.div_eq_of_lt hj];omega
     ·rfl
    ·unfold qz;rw[Lg,Lg,List.getElem?_eq_none (by rw[Qf];omega),List.getElem?_eq_none (by rw[Qf];omega)]
  refine⟨by rw[ey,ez,TreeV.rowZ_length,TreeV.rowZ_length,hul],fun k hk=>?_,?_⟩
  ·rw[ey,ez];refine hget (by rw[TreeV.rowZ_length,TreeV.rowZ_length,hul]) ?_;by_cases hc:k<D.length
   ·rw[yp _ _ _ _ _ _ _ (by omega),yp _ _ _ _ _ _ _ hc,hno k hk,hul]
   ·unfold qz;rw[Lg,Lg,List.getElem?_eq_none (by rw[TreeV.rowZ_length];omega),List.getElem?_eq_none (by rw[TreeV.rowZ_length];omega)]
  ·have hi:Qr t.fn (t.rowsOf zs.length) leaf (r+1)<D.length:=by omega
   obtain⟨-,a,b,hsp,hab,hbl,hit⟩:=qb3 he kz z1 z2 h0y hLy.2.2 hr hLy0 hD hi;have hws:qw t zs.length leaf (r+1)=⟨r+1,Qr t.fn (t.rowsOf zs.length) leaf (r+1),a,b,decide (Qr t.fn (t.rowsOf zs.length) leaf (r+1)+1=D.length),t.rootZ (r+1) Ly.length⟩:=hsp;have hch2:(qw t zs.length leaf (r+1)).frm≤Qr t.fn (t.rowsOf zs.length) leaf r∧Qr t.fn (t.rowsOf zs.length) leaf r<(qw t zs.length leaf (r+1)).to_:=⟨hch.2.1,hch.2.2⟩;show t.giveZ kz z1 z2 (qw t zs.length leaf (r+1)) (qeK (Yn (t.stepsZ kz z1 z2 zs leaf m) r) (t.pathR kz z1 z2 zs.length leaf (t.stepsZ kz z1 z2 zs leaf m) (qz (QH t.ln ys) leaf) r))=_
   rw[i3,Y7 _ _ _ _ _ _ (by omega),hst,ey,yp _ _ _ _ _ _ _ hi];rw[hws]at hch2⊢;unfold qeK;rw[qdd,qdd,qhd hch2.1 hch2.2 hbl i2,←hit];rfl
theorem qaD {t:TreeV}(h:t.validE=0)(hl:0≤t.l∧t.l≤4294967295)(kz z1 z2 zs ys:List Int)(hyz:ys.length=zs.length)(hn:zs.length≤4194304){leaf:Nat}(hleaf:leaf<nth (t.rowsOf zs.length) 0)
  (hs: ∀k,k≠leaf→qz (QH t.ln ys) k=qz (QH t.ln zs) k) (m:Nat) (hm:(t.rowsOf zs.length).length - 1=m):
  t.pathR kz z1 z2 zs.length leaf (t.stepsZ kz z1 z2 zs leaf m) (qz (QH t.ln ys) leaf) m=t.digZ kz z1 z2 ys:=by
 have he:=yA h hn;have hR:=qA he;have hlen:=hR.len;have hu:=qbM h hl kz z1 z2 zs ys hyz hn hleaf hs m (by omega) m (by omega);rw[hu.2.2];unfold TreeV.digZ;rw[if_pos h,hyz,hm];have hA:=yC hR hleaf m (by omega);have hla:=hR.last;rw[hm]at hla;rw[show Qr t.fn (t.rowsOf zs.length) leaf m=0 by omega]
end Go.Proofs.YtahenngmaoellaaGreat
namespace Go.Proofs.YtahenngmaoellaaGreat
open Go.ChangeShapes Go.WideShapes Go.ChangeAt Go.RowKit Go.Joins Go.Shelf Go.Maps
open Go.Lib (hid)
attribute [local go_sem] Oper.semAt_some
theorem qbp {t:TreeV}(h:t.validE=0)(kz z1 z2 zs:List Int){k:Nat}(hk:k<(t.rowsOf zs.length).length):(t.rowsZ kz z1 z2 zs).getD k []=t.lvlZ kz z1 z2 (t.leafZ kz z1 z2 zs) k∧k<(t.rowsZ kz z1 z2 zs).length:=by
 unfold TreeV.rowsZ;rw[if_pos h];have h2:k<(t.allC kz z1 z2 zs ((t.rowsOf zs.length).length - 1+1)).length:=by rw[TreeV.allC_length];omega
 refine⟨?_,by rw[List.length_map];exact h2⟩;have h1:=qbN t kz z1 z2 zs (m:=(t.rowsOf zs.length).length - 1+1) (i:=k) (by omega);rw[Lg,List.getElem?_eq_getElem h2,Option.getD_some]at h1;rw[Lg,List.getElem?_map,List.getElem?_eq_getElem h2,Option.map_some,Option.getD_some,h1,TreeV.lvl_is];unfold TreeV.callsR TreeV.rowC TreeV.rowZ;rw[List.map_map];rfl
def TreeV.llZ (t:TreeV)(kz z1 z2 zs:List Int)(leaf:Nat):Nat→List (List (List Int))
 | 0=>[]
 | k+1=>t.llZ kz z1 z2 zs leaf k++[(t.stepZ kz z1 z2 zs leaf k).1]++[(t.stepZ kz z1 z2 zs leaf k).2]
theorem TreeV.llZ_length (t:TreeV)(kz z1 z2 zs:List Int)(leaf:Nat): ∀k,(t.llZ kz z1 z2 zs leaf k).length=k*2
 | 0=>rfl
 | k+1=>by simp[TreeV.llZ,TreeV.llZ_length t kz z1 z2 zs leaf k];omega
theorem Jy (t:TreeV)(kz z1 z2 zs:List Int)(leaf:Nat): ∀m k,k<m→(t.llZ kz z1 z2 zs leaf m).getD (k*2) []=(t.stepZ kz z1 z2 zs leaf k).1∧(t.llZ kz z1 z2 zs leaf m).getD (k*2+1) []=(t.stepZ kz z1 z2 zs leaf k).2
 | m+1,k,h=>by
  have hl:=TreeV.llZ_length t kz z1 z2 zs leaf m;show((t.llZ kz z1 z2 zs leaf m++[_])++[_]).getD _ _=_∧((t.llZ kz z1 z2 zs leaf m++[_])++[_]).getD _ _=_
  rw[qQ,qQ,qQ,qQ];simp only[List.length_append,List.length_singleton,hl];by_cases hk:k=m
  ·subst hk;rw[if_pos (by omega),if_neg (by omega),if_pos rfl,if_neg (by omega),if_pos rfl];exact⟨rfl,rfl⟩
  ·rw[if_pos (by omega),if_pos (by omega),if_pos (by omega),if_pos (by omega)];exact Jy t kz z1 z2 zs leaf m k (by omega)
theorem ZD {α:Type}(X:List α)(p q r d:α){n:Nat}(h:X.length=n):(X++[p]++[q]).getD n d=p∧(X++[p]++[q]).getD (n+1) d=q∧(X++[p]++[q]).set n r=X++[r]++[q]∧(X++[p]++[q]).set (n+1) r=X++[p]++[r]:=by
 subst h;refine⟨?_,?_,?_,?_⟩
 ·rw[qQ,if_pos (by simp),qQ,if_neg (by omega),if_pos rfl]
 ·rw[qQ,if_neg (by simp),if_pos (by simp)]
 ·rw[List.append_assoc,List.set_append_right _ _ Nl,Nat.sub_self];simp
 ·rw[List.append_assoc,List.set_append_right _ _ (by omega),Nat.add_sub_cancel_left];simp
theorem qbP {L:List (List Int)}{f j:Nat}(h:f+j<L.length):(L.drop f).take (j+1)=(L.drop f).take j++[qz L (f+j)]:=by
 have e:qz L (f+j)=qz (L.drop f) j:=(JQ L f j).symm;rw[List.take_add_one,List.getElem?_drop,List.getElem?_eq_getElem h];unfold qz;rw[Lg,List.getElem?_eq_getElem h];rfl
theorem qg3 (t:TreeV)(kz z1 z2 zs:List Int)(leaf:Nat)(hleaf:(leaf:Int)≤18446744073709551615)(v:Value)(w:World)(h:TreeOk t kz z1 z2 w)(hv:Hold w v zs)(hn:zs.length≤4194304)(he:t.spotE zs.length 0 leaf=0):
  Calls Tryz.prog 30 #[t.val,v,.int .u64 leaf] w fun r w'=> ∃u xs DS,r= .returned (.tuple #[qcF zs.length leaf u,.int .i64 0])∧(w'.ownsRow w.heap.size 69 2 u ((t.rowsOf zs.length).length - 1) xs∧ListsV w.heap.size w' xs (t.llZ kz z1 z2 zs leaf ((t.rowsOf zs.length).length - 1)) DS)∧Below w.heap.size w w':=by
 obtain⟨b0,hb0⟩:=Ex w.heap.size;obtain⟨i8,hi8,hz80,hz81,hz82⟩:=info_parts Qn;obtain⟨iS,hiS,hy0,hy1,hy2⟩:=info_parts qgd;have ht:(zs.length:Int)≤18446744073709551615:=by omega
 have her:=yA h.v hn;have F:=Z9 h.l ht he;obtain⟨hkf,h00,i1,i2,hv0⟩:=j8 h.l ht he;have hR:=qA her;have hL:=Qb h.v h.l kz z1 z2 zs;have hlr:=QP her kz z1 z2 (Yg h.v h.l kz z1 z2 zs) hL.2.2;obtain⟨m,hm⟩:=Ex ((t.rowsOf zs.length).length - 1);have hm1:1≤m:=by have:=F.two;omega
 have hm2:m≤255:=by have:=F.most;omega
 have hml:(t.rowsOf zs.length).length=m+1:=by have:=F.two;omega
 have hway:=qaN t h.l zs.length ht leaf he;rw[hm]at hway;have HW:=hid hway;have HROWS:=hid (fun(W:World) (hb:Below b0 w W)=>qgL t kz z1 z2 zs v W h.l (h.k.below (hb0▸hb)) (h.s.below (hb0▸hb)) (h.p.below (hb0▸hb)) (hv.below (hb0▸hb)) hn);have hfew: ∀k,k<m→ ∃f c d:Nat,(qw t zs.length leaf (k+1)).frm=f∧(qw t zs.length leaf (k+1)).to_=d∧chI t zs.length leaf k=(c:Nat)∧f+c<d∧d≤(t.lvlZ kz z1 z2 (t.leafZ kz z1 z2 zs) k).length∧(t.lvlZ kz z1 z2 (t.leafZ kz z1 z2 zs) k).length≤4194305∧(t.rowsZ kz z1 z2 zs).getD k []=t.lvlZ kz z1 z2 (t.leafZ kz z1 z2 zs) k∧k<(t.rowsZ kz z1 z2 zs).length∧(∀j,(qz (t.lvlZ kz z1 z2 (t.leafZ kz z1 z2 zs) k) j).length≤64)∧
   t.stepZ kz z1 z2 zs leaf k=(((t.lvlZ kz z1 z2 (t.leafZ kz z1 z2 zs) k).drop f).take c,((t.lvlZ kz z1 z2 (t.leafZ kz z1 z2 zs) k).drop (f+c+1)).take (d - (f+c) - 1)):=fun k hk=>by
  have hK:=hkf k (by omega);have hch:=qhy hK;have hto:=zd (l:=t.ln) (by have:=(qk h.v).2.2.2.2.2.2.2.2.1;have:=h.l;unfold TreeV.ln;omega) hR (k:=k+1) (by omega) (by omega) (yC hR (zY h.l he).2.2.2 (k+1) (by omega));have hlk:=hlr k (by omega);have hF:=Qa h.v kz z1 z2 hL.1 hL.2.2 k;have e1:=hK.le;have e2:=hK.lt;have hrz:=qbp h.v kz z1 z2 zs (k:=k) (by omega);refine⟨_,chN t zs.length leaf k,_,rfl,rfl,hch,?_,?_,by have:=hL.2.1;omega,hrz.1,hrz.2,fun j=>?_,?_⟩
  ·unfold chN;omega
  ·rw[hlk];exact hto
  ·unfold qz;rw[Lg]
   cases e:(t.lvlZ kz z1 z2 (t.leafZ kz z1 z2 zs) k)[j]? with
   | none=>simp
   | some z=>exact hF.2.2 z (List.mem_of_getElem? e)
  ·unfold TreeV.stepZ chN;rw[show(qw t zs.length leaf (k+1)).frm+(Qr t.fn (t.rowsOf zs.length) leaf k - (qw t zs.length leaf (k+1)).frm)=Qr t.fn (t.rowsOf zs.length) leaf k by omega]
 have HFEW:=hid hfew;have HRW:Hid (∀k,(qw t zs.length leaf k).row=k):=hid (fun k=>(ze _ _ _ _ _ _).1);have HLLS:Hid (∀k,t.llZ kz z1 z2 zs leaf (k+1)=t.llZ kz z1 z2 zs leaf k++[(t.stepZ kz z1 z2 zs leaf k).1]++[(t.stepZ kz z1 z2 zs leaf k).2]):=hid (fun k=>rfl);have HLL0:Hid (t.llZ kz z1 z2 zs leaf 0=[]):=hid rfl;have HLLN:Hid (∀k,(t.llZ kz z1 z2 zs leaf k).length=k*2):=hid (t.llZ_length kz z1 z2 zs leaf);have hju:IntKind.u64.wrap (zs.length:Int)=(zs.length:Int):=u64_wrap_id _ (by omega) (by omega);have HE0:Hid (t.validE=0):=hid h.v;obtain⟨va,vc,rfl, -, -⟩:=id hv.slice;rw[hv0]at HROWS;rw[hm];clear F hkf h00 i1 i2 hv0 hm hml hway hfew hR hL hlr her he h hv hn;unfold TreeV.val qcF at*;go_enter Tryz.func30,Tryz.ntmps30
 go_upto_region 1 with(fail)
 refine qj ?_;intro wA hwA;have hrT:wA.heap[b0]? =some (.cells #[.int .i64 t.k,.int .i64 t.d,.int .i64 t.f,.int .i64 t.p,.int .u32 t.l,.int .i64 t.i,.slice t.ka t.kl t.kc,.slice t.sa t.sl t.sc,.slice t.pa t.pl t.pc] 26 (0,0)):=by rw[hwA];exact(Bh _ _ _ (by simp;omega)).trans (qc _ _ hb0.symm)
 have hrP:wA.heap[b0+1]? =some (.cells #[.int .u64 0,.int .u64 0,.slice none 0 0] 55 (0,0)):=by rw[hwA];exact qc _ _ (by simp;omega)
 have hbA:Below b0 w wA:=by rw[hwA,←hb0];exact(Br.alloc Nl _).alloc (by simp) _
 have hsA:b0+1<wA.heap.size:=(Ai hrP).1;clear hwA;go_wp2_with ((with_reducible show wpList _ _ _ (Oper.mk _ (Op.load 26 _) _ _ _ _::_) _ _);refine wpList_load_row rfl 26 _ rfl b0 rfl _ _ _ _ hrT Tryz.underlying26 rfl (by kernel_rfl) ?_)
 refine(HW.out wA).mono ?_;rintro e w2 ⟨g,cap,rfl,hst,hb2⟩;have hrT2:=qd hrT hb2;have HRP2:=hid (qd hrP hb2);have HB2:=hid (hbA.trans (hb2.mono (show b0≤wA.heap.size by omega)));have HST2:=hid hst;have hs2:b0+1<w2.heap.size:=by have:=hb2.size;omega
 clear hst hb2 hbA hrT hrP HW hsA;clear wA;go_wp2_with ((with_reducible show wpList _ _ _ (Oper.mk _ (Op.load 26 _) _ _ _ _::_) _ _);refine wpList_load_row rfl 26 _ rfl b0 rfl _ _ _ _ hrT2 Tryz.underlying26 rfl (by kernel_rfl) ?_)
 refine(HROWS.out w2 HB2.out).mono ?_;rintro e w5 ⟨ru,rvs,rfl,hrw,hb5⟩;have HRP5:=hid (qd HRP2.out hb5);have HB5:=hid (HB2.out.trans (hb5.mono (show b0≤w2.heap.size by omega)));have HST5:=hid (HST2.out.below hb5);have HRV:=hid (hrw.le (Nat.zero_le _));obtain⟨ra,rc,rfl,hZi⟩:=hrw.formP;obtain⟨bp,hbp⟩:=Ex w5.heap.size;have hs5:b0+1<bp:=by have:=hb5.size;omega
 clear hrw hb5 HST2 HRP2 HB2 hrT2 hs2 HROWS;clear w2;go_upto_region 9 with(fail)
 refine qj ?_;intro wB hwB;have hpB:wB.heap[bp]? =some (.cells #[.int .u64 zs.length,.int .u64 leaf,.slice none 0 0] 55 (0,0)):=by rw[hwB];exact qc _ _ hbp.symm
 have hbB:Below bp w5 wB:=by rw[hwB,←hbp];exact Br.alloc Nl _
 have HPB:=hid hpB;have HBB:=hid hbB;clear hwB hpB hbB;go_wp2_with fail
 go_loopw [49] (fun i wr=> ∃(k:Nat) (u:Value) (xs:List Value) (DS:List (List Value)),i= .int .i64 (k:Nat)∧k≤m∧wr.heap[bp]? =some (.cells #[.int .u64 zs.length,.int .u64 leaf,u] 55 (0,0))∧wr.ownsRow bp 69 2 u k xs∧ListsV bp wr xs (t.llZ kz z1 z2 zs leaf k) DS∧Below bp w5 wr) (fun i _=>m - (intOf i).toNat)
 case atStart=>exact⟨0,_,[],[],rfl,Nat.zero_le _,HPB.out,Wo _ _ _ _,by rw[HLL0.out];exact ListsV.nil _ _,HBB.out⟩
 case round=>
  clear HPB HBB;obtain⟨k,u,xs,DS,rfl,hk,hpb,hown,hls,hb⟩:=hrel;have hbs:bp≤wr.heap.size:=by have:=hb.size;omega
  have hbp2:bp<wr.heap.size:=(Ai hpb).1;obtain⟨ua,uc,rfl⟩:=zC hown;by_cases hlt:k<m
  case pos=>
   have hlt2:(k:Int)<(m:Int):=by omega
   obtain⟨f,c,d,hf,hd,hch,hfc,hdl,hl4,hrz,hkr,h64,hsz⟩:=HFEW.out k hlt;obtain⟨s0,s1,s2,s3,s4,s5,s6⟩:=HST5.out.2 k hlt;dsimp only at s0 s1 s2 s3 s4 s5 s6;rw[HRW.out,show((k+1:Nat):Int)=(k:Int)+1 by omega]at s0;rw[hf]at s2;rw[hd]at s3;rw[hch]at s6;have hll:=HLLS.out k;rw[hsz]at hll;have hln:=HLLN.out k;have hrow:=HRV.out.2.1 k hkr;rw[hrz]at hrow;obtain⟨gR,cR,e1,hgR,hcR⟩:=HRV.out.getP hkr;simp only[Value.slice.injEq,true_and]at e1;obtain⟨rfl,rfl⟩:=e1;generalize t.lvlZ kz z1 z2 (t.leafZ kz z1 z2 zs) k=R at*;generalize rvs.getD k undef=X at*;obtain⟨Xa,cX,rfl,hX1,hX2,hX3⟩:=hrow.hold;obtain⟨gX,oX,rfl,hgX,hX4⟩:=hX3.resolve_left (fun e=>by rw[e]at hdl;simp at hdl;omega);have HX4:=hid hX4;have H64:=hid h64;have HLL:=hid hll;have HLN:=hid hln;have HRW0:=hid hdl;generalize ((qw t zs.length leaf (k+1)).at_:Int)=A at*;generalize (qw t zs.length leaf (k+1)).last=la at*;generalize (qw t zs.length leaf (k+1)).root=ro at*;have hgl5:g<w5.heap.size:=HST5.out.1;have hcl: ∀o,wr.cell? ⟨g,o,none⟩=w5.cell? ⟨g,o,none⟩:=fun o=>hb.cell (p:=⟨g,o,none⟩) (by show g<bp;omega)
   have c0:=(hcl _).trans s0;have c1:=(hcl _).trans s1;have c2:=(hcl _).trans s2;have c3:=(hcl _).trans s3;have c4:=(hcl _).trans s4;have c5:=(hcl _).trans s5;have c6:=(hcl _).trans s6;have hglr:g<wr.heap.size:=by omega
   have HOWN:=hid hown;have HLS:=hid hls;have HB:=hid hb;have HPB:=hid hpb;have HUB:=hid (qM hown);have hdn:(d:Int)≤4194305:=by omega
   have hfd:(f:Int)≤d:=by omega
   have hdc:(d:Int)≤cX:=by omega
   have hkZ:(k:Int)<(t.rowsZ kz z1 z2 zs).length:=by omega
   clear s0 s1 s2 s3 s4 s5 s6 hcl hf hd hch hrz hsz hll hln hrow hX3 hX4 h64 hdl hown hls hb hpb hX1 hkr;obtain⟨bw,hbw⟩:=Ex wr.heap.size;go_upto_region 13 with(fail)
   refine qj ?_;intro Y hY;have hrG:Y.heap[bw]? =some (.cells #[.int .i64 ((k:Int)+1),.int .u64 A,.int .u64 (f:Nat),.int .u64 (d:Nat),.bool la,.bool ro,.int .u64 (c:Nat)] 131 (0,0)):=by rw[hY];exact(Bh _ _ _ (by simp;omega)).trans (qc _ _ hbw.symm)
   have hrS:Y.heap[bw+1]? =some (.cells #[.slice none 0 0,.slice none 0 0] 69 (0,0)):=by rw[hY];exact qc _ _ (by simp;omega)
   have hbY:Below bw wr Y:=by rw[hY,←hbw];exact(Br.alloc Nl _).alloc (by simp) _
   have hsY:bw+1<Y.heap.size:=(Ai hrS).1;have hb5Y:Below bp w5 Y:=HB.out.trans (hbY.mono (by omega));have HBY:=hid hbY;have HB5Y:=hid hb5Y;have HRG:=hid hrG;have HRS:=hid hrS;have t0:Y.cell? ⟨bw,0,none⟩=some (.int .i64 ((k:Int)+1)):=qa hrG 0;have t2:Y.cell? ⟨bw,2,none⟩=some (.int .u64 (f:Nat)):=qa hrG 2;have t3:Y.cell? ⟨bw,3,none⟩=some (.int .u64 (d:Nat)):=qa hrG 3;have tX:Y.cell? ⟨gR,k,none⟩=some (.slice (some ⟨gX,oX,none⟩) R.length cX):=(hb5Y.cell (p:=⟨gR,k,none⟩) (by show gR<bp;omega)).trans hcR;have hgRY:gR<Y.heap.size:=by omega
   have hgXY:gX<bp:=by omega
   clear hY hrG hrS hbY hb5Y c0 c1 c2 c3 c4 c5 c6 hcR hgR hgX hglr;go_quiet (fail)
   go_upto_region 14 with(fail)
   refine qj ?_;intro V hV;have hYV:Below Y.heap.size Y V:=by rw[hV];exact below_draws _ _ _
   have HYV:=hid hYV;have hsV:bw+1<V.heap.size:=by have:=hYV.size;omega
   clear hV hYV t0 t2 t3 tX hgRY;have HVG:Hid (V.heap[bw]? =some (.cells #[.int .i64 ((k:Int)+1),.int .u64 A,.int .u64 (f:Nat),.int .u64 (d:Nat),.bool la,.bool ro,.int .u64 (c:Nat)] 131 (0,0))):=hid (qd HRG.out HYV.out);have HVS:Hid (V.heap[bw+1]? =some (.cells #[.slice none 0 0,.slice none 0 0] 69 (0,0))):=hid (qd HRS.out HYV.out);have hwV:Below bw wr V:=HBY.out.trans (HYV.out.mono (by omega));have HVP:Hid (V.heap[bp]? =some (.cells #[.int .u64 zs.length,.int .u64 leaf,.slice ua k uc] 55 (0,0))):=hid (qd HPB.out (hbw▸hwV));have HVU:Hid (V.ownsRow bp 69 2 (.slice ua k uc) k xs):=hid (QV HOWN.out (fun q hq=>hwV.block q (by have:=HUB.out q hq;omega)));have HVL:Hid (ListsV bp V xs (t.llZ kz z1 z2 zs leaf k) DS):=hid (HLS.out.below (hbw▸hwV));have HV5:Hid (Below bp w5 V):=hid (HB.out.trans (hwV.mono (by omega)));have HUBW:Hid (∀q,(Value.slice ua k uc).ownBlock=some q→q<bw):=hid (fun q hq=>by have:=HUB.out q hq;omega);have HXL:=hid (HLS.out.lx.trans HLN.out);have HDL:=hid (HLS.out.ld.trans HLN.out);have hbpw:bp<bw:=by omega
   clear hsY hwV HBY HB5Y HRG HRS HYV HPB HOWN HUB HLS HB hbs hbp2 hbw;clear Y;clear wr;go_wp2_with fail
   go_loopw [69] (fun i wr=> ∃(j:Nat) (bv av:Value) (E:List (List Value)),i= .int .i64 (j:Nat)∧j≤d - f∧wr.heap[bw]? =some (.cells #[.int .i64 ((k:Int)+1),.int .u64 A,.int .u64 (f:Nat),.int .u64 (d:Nat),.bool la,.bool ro,.int .u64 (c:Nat)] 131 (0,0))∧wr.heap[bw+1]? =some (.cells #[bv,av] 69 (0,0))∧wr.heap[bp]? =some (.cells #[.int .u64 zs.length,.int .u64 leaf,.slice ua k uc] 55 (0,0))∧wr.ownsRow bp 69 2 (.slice ua k uc) k xs∧ListsV bp wr (xs++[bv]++[av]) (t.llZ kz z1 z2 zs leaf k++[(R.drop f).take (min j c)]++[(R.drop (f+c+1)).take (j - c - 1)]) E∧Below bp w5 wr) (fun i _=>d - f - (intOf i).toNat)
   case atStart=>exact⟨0,_,_,_,rfl,Nat.zero_le _,HVG.out,HVS.out,HVP.out,HVU.out,by rw[Nat.zero_min,List.take_zero,Nat.zero_sub,Nat.zero_sub,List.take_zero];exact HVL.out.more.more,HV5.out⟩
   case round=>
    clear HVG HVS HVP HVU HVL HV5;obtain⟨j,bv,av,E,rfl,hj,hg0,hs0,hp0,hu0,hl0,hb0'⟩:=hrel;have hX2:=HXL.out;have hLn:(t.llZ kz z1 z2 zs leaf k).length=k*2:=HLN.out;have hdb:=hl0.each (k*2) (by simp[hLn]);have hda:=hl0.each (k*2+1) (by simp[hLn]);rw[(ZD xs bv av bv undef hX2).1,(ZD _ _ _ [] [] hLn).1]at hdb;rw[(ZD xs bv av bv undef hX2).2.1,(ZD _ _ _ [] [] hLn).2.1]at hda;obtain⟨bva,bvn,bvc,rfl⟩:=QT hdb.1;obtain⟨ava,avn,avc,rfl⟩:=QT hda.1;have hs1:bw+1<wr.heap.size:=(Ai hs0).1;have g6:wr.cell? ⟨bw,6,none⟩=some (.int .u64 (c:Nat)):=qa hg0 6;have q0:wr.cell? ⟨bw+1,0,none⟩=some (.slice bva bvn bvc):=qa hs0 0;have q1:wr.cell? ⟨bw+1,1,none⟩=some (.slice ava avn avc):=qa hs0 1;have p2:wr.cell? ⟨bp,2,none⟩=some (.slice ua k uc):=qa hp0 2;have hpw:bp<wr.heap.size:=by omega
    have HG0:=hid hg0;have HS0:=hid hs0;have HP0:=hid hp0;have HU0:=hid hu0;have HL0:=hid hl0;have HB0:=hid hb0';have HDB:=hid hdb;have HDA:=hid hda;by_cases hjt:j<d - f
    case pos=>
     have hjt2:(j:Int)<(d:Int) - (f:Int):=by omega
     obtain⟨x,hx,hxh⟩:=HX4.out (f+j) (by have:=HRW0.out;omega);have hz64:=H64.out (f+j);have hxw:wr.cell? ⟨gX,oX+(f+j),none⟩=some x:=(hb0'.cell (p:=⟨gX,oX+(f+j),none⟩) (by show gX<bp;omega)).trans hx;have hxw2:=(hxh.below (hbp▸hb0'));rw[show oX+(f+j)=oX+f+j by omega]at hxw;have htk:((R.drop f).take (j+1))=(R.drop f).take j++[qz R (f+j)]:=qbP (by have:=HRW0.out;omega);have htk2:c<j→(R.drop (f+c+1)).take (j - c)=(R.drop (f+c+1)).take (j - c - 1)++[qz R (f+j)]:=fun hc=>by
      have:=qbP (L:=R) (f:=f+c+1) (j:=j - c - 1) (by have:=HRW0.out;omega)
      rw[show j - c - 1+1=j - c by omega,show f+c+1+(j - c - 1)=f+j by omega]at this;exact this
     generalize qz R (f+j)=z at*;obtain⟨xa,xc,rfl, -, -⟩:=id hxw2.slice;have HXS:=hid hxw2.src;have HXB:=hid hxw2.1;have HTK:=hid htk;have HTK2:=hid htk2;have hgXw:gX<wr.heap.size:=by omega
     clear hg0 hs0 hp0 hu0 hl0 hb0' hdb hda hx hxh hxw2 htk htk2 hX2 hLn;go_upto_region 18 with(at_builtin;refine qN rfl _ _ _ rfl wr wr.heap.size rfl Br 5 i8 (.int .u8 0) 1 Tryz.underlying24 hi8 hz80 hz81 hz82 rfl (.slice none 0 0) 0 [] rfl (Wo _ _ _ _) _ _ _ rfl HXS.out (by unfold maxLen;omega) (by omega) ?_;intro v' w' hown' hb')
     have hown2:w'.ownsRow wr.heap.size 5 1 v' z.length (z.map qo):=by simpa using hown'
     have hOB:OwnB wr.heap.size w' v' z:=⟨HXB.out,yQ hown2⟩;obtain⟨da,dn,dc,rfl⟩:=QT hown2;have hg1:=qd HG0.out hb';have hs1':=qd HS0.out hb';have hp1:=qd HP0.out hb';have HU1:=hid (QV HU0.out (fun q hq=>hb'.block q (qM HU0.out q hq)));have HL1:=hid (HL0.out.below hb');have HB1:=hid (HB0.out.trans (hb'.mono (by omega)));have HNEW:=hid (show ∀g,(Value.slice da dn dc).ownBlock=some g→ ∀b i,(dgV E b i).ownBlock≠some g from fun g hg b i e=>by
      have:=(qfp hOB g hg).1
      have:=(HL0.out.dlt b i g e).2
      omega)
     have HOB:=hid (hOB.le (show bp≤wr.heap.size by omega));have hdb1:=HDB.out.1;have hda1:=HDA.out.1;have HDB1:=hid (QV hdb1 (fun q hq=>hb'.block q (qM hdb1 q hq)));have HDA1:=hid (QV hda1 (fun q hq=>hb'.block q (qM hda1 q hq)));have hbp':bp≤w'.heap.size:=by have:=hb'.size;omega
     have hs2':bw+1<w'.heap.size:=by have:=hb'.size;omega
     have n6:w'.cell? ⟨bw,6,none⟩=some (.int .u64 (c:Nat)):=qa hg1 6;have n0:w'.cell? ⟨bw+1,0,none⟩=some (.slice bva bvn bvc):=qa hs1' 0;have n1:w'.cell? ⟨bw+1,1,none⟩=some (.slice ava avn avc):=qa hs1' 1;have HG1:=hid hg1;have HS1:=hid hs1';have HP1:=hid hp1;have hjw:IntKind.u64.wrap (j:Int)=(j:Int):=u64_wrap_id _ (by omega) (by omega);have hln8:((R.drop f).take (min j c)).length≤8388608∧((R.drop (f+c+1)).take (j - c - 1)).length≤8388608:=by simp only[List.length_take];omega
     obtain⟨hln8a,hln8b⟩:=hln8;clear hown' hown2 hOB hg1 hs1' hp1 hdb1 hda1 hb' HG0 HS0 HP0 HU0 HB0 HDB HDA g6 q0 q1 p2 hxw hgXw HL0 HXS HXB hz64;by_cases hjc:j<c
     case pos=>
      go_wp2_with (at_builtin;refine j6 rfl _ _ rfl bp (.slice bva bvn bvc) _ _ (.slice da dn dc) rfl HDB1.out rfl rfl hln8a hbp' ?_;intro v' w'' ho hk hsp hat;obtain⟨na,nn,nc,rfl⟩:=QT ho;have stay: ∀(p:Nat) (cs:Array Value) (T:TypeId),T≠24→w'.heap[p]? =some (.cells cs T (0,0))→w''.heap[p]? =some (.cells cs T (0,0)):=(fun p cs T hT hp=>(hsp.block p (Ai hp).1 (fun e=>yO HDB1.out hp hT p e rfl)).trans hp);have hst1:=stay _ _ _ (by decide) HS1.out;have n0:w''.cell? ⟨bw+1,0,none⟩=some (.slice bva bvn bvc):=qa hst1 0;obtain⟨-,fz⟩:=J2 hst1;have hs9:bw+1<w''.heap.size:=(Ai hst1).1;have HSTAY:=hid stay;have HHO:=hid ho;have HHK:=hid hk;have HHSP:=hid hsp;have HHAT:=hid hat;have HST1:=hid hst1;clear ho hk hsp hat stay hst1)
      have hbu:=(But.refl (bw+1) w'').set 0 (.slice na nn nc);have a1:=ZD xs (.slice bva bvn bvc) (.slice ava avn avc) (.slice na nn nc) undef HXL.out;have a2:=ZD (t.llZ kz z1 z2 zs leaf k) ((R.drop f).take (min j c)) ((R.drop (f+c+1)).take (j - c - 1)) (((R.drop f).take (min j c))++[z]) [] HLN.out;have hP:=ListsV.put (v':= .slice na nn nc) (x:= .slice da dn dc) (z:=z) (a:=(k*2)) HL1.out (by simp[HLN.out]) (by rw[a2.1];exact HHO.out) HOB.out HHK.out (by rw[a1.1];exact HHSP.out) (by rw[a1.1];exact HHAT.out) HNEW.out;rw[a1.2.2.1,a2.1,a2.2.2.1]at hP;have e9:(R.drop f).take (min j c)++[z]=(R.drop f).take (min (j+1) c):=by rw[Nat.min_eq_left (by omega),Nat.min_eq_left (by omega),HTK.out]
      rw[e9,show j - c - 1=j+1 - c - 1 by omega]at hP;have hu9:(w''.setCell ⟨bw+1,0,none⟩ (.slice na nn nc)).ownsRow bp 69 2 (.slice ua k uc) k xs:=QV (QV HU1.out (yN HDB1.out HU1.out (by decide) HHSP.out)) (fun q hq=>hbu.block q (by have:=HUBW.out q hq;omega) (by have:=HUBW.out q hq;omega));exact⟨⟨j+1,.slice na nn nc,.slice ava avn avc,_,by go_num,by omega,(hbu.block bw (by omega) (by omega)).trans (HSTAY.out _ _ _ (by decide) HG1.out),block_setCell HST1.out _,(hbu.block bp (by omega) (by omega)).trans (HSTAY.out _ _ _ (by decide) HP1.out),hu9,hP.off HST1.out (by decide) (by decide) hbu,(HB1.out.trans HHK.out.below).setCell (by show bp≤bw+1;omega) _⟩,by simp[intOf];omega⟩
     have hjc2:(j<c)=False:=eq_false hjc;by_cases hcj:c<j
     case pos=>
      go_wp2_with (at_builtin;refine j6 rfl _ _ rfl bp (.slice ava avn avc) _ _ (.slice da dn dc) rfl HDA1.out rfl rfl hln8b hbp' ?_;intro v' w'' ho hk hsp hat;obtain⟨na,nn,nc,rfl⟩:=QT ho;have stay: ∀(p:Nat) (cs:Array Value) (T:TypeId),T≠24→w'.heap[p]? =some (.cells cs T (0,0))→w''.heap[p]? =some (.cells cs T (0,0)):=(fun p cs T hT hp=>(hsp.block p (Ai hp).1 (fun e=>yO HDA1.out hp hT p e rfl)).trans hp);have hst1:=stay _ _ _ (by decide) HS1.out;have n0:w''.cell? ⟨bw+1,1,none⟩=some (.slice ava avn avc):=qa hst1 1;obtain⟨-,fz⟩:=J2 hst1;have hs9:bw+1<w''.heap.size:=(Ai hst1).1;have HSTAY:=hid stay;have HHO:=hid ho;have HHK:=hid hk;have HHSP:=hid hsp;have HHAT:=hid hat;have HST1:=hid hst1;clear ho hk hsp hat stay hst1)
      have hbu:=(But.refl (bw+1) w'').set 1 (.slice na nn nc);have a1:=ZD xs (.slice bva bvn bvc) (.slice ava avn avc) (.slice na nn nc) undef HXL.out;have a2:=ZD (t.llZ kz z1 z2 zs leaf k) ((R.drop f).take (min j c)) ((R.drop (f+c+1)).take (j - c - 1)) (((R.drop (f+c+1)).take (j - c - 1))++[z]) [] HLN.out;have hP:=ListsV.put (v':= .slice na nn nc) (x:= .slice da dn dc) (z:=z) (a:=(k*2+1)) HL1.out (by simp[HLN.out]) (by rw[a2.2.1];exact HHO.out) HOB.out HHK.out (by rw[a1.2.1];exact HHSP.out) (by rw[a1.2.1];exact HHAT.out) HNEW.out;rw[a1.2.2.2,a2.2.1,a2.2.2.2]at hP;have e9:(R.drop (f+c+1)).take (j - c - 1)++[z]=(R.drop (f+c+1)).take (j+1 - c - 1):=by rw[show j+1 - c - 1=j - c by omega,HTK2.out (by omega)]
      rw[e9,show min j c=min (j+1) c by omega]at hP;have hu9:(w''.setCell ⟨bw+1,1,none⟩ (.slice na nn nc)).ownsRow bp 69 2 (.slice ua k uc) k xs:=QV (QV HU1.out (yN HDA1.out HU1.out (by decide) HHSP.out)) (fun q hq=>hbu.block q (by have:=HUBW.out q hq;omega) (by have:=HUBW.out q hq;omega));exact⟨⟨j+1,.slice bva bvn bvc,.slice na nn nc,_,by go_num,by omega,(hbu.block bw (by omega) (by omega)).trans (HSTAY.out _ _ _ (by decide) HG1.out),block_setCell HST1.out _,(hbu.block bp (by omega) (by omega)).trans (HSTAY.out _ _ _ (by decide) HP1.out),hu9,hP.off HST1.out (by decide) (by decide) hbu,(HB1.out.trans HHK.out.below).setCell (by show bp≤bw+1;omega) _⟩,by simp[intOf];omega⟩
     have hcj2:(c<j)=False:=eq_false hcj;obtain rfl:j=c:=by omega
     go_wp2_with fail
     refine⟨⟨j+1,_,_,E,by go_num,by omega,HG1.out,HS1.out,HP1.out,HU1.out,?_,HB1.out⟩,by simp[intOf];omega⟩;have hq:=HL1.out;rw[show min j j=min (j+1) j by omega,show j - j - 1=j+1 - j - 1 by omega]at hq;exact hq
    obtain rfl:j=d - f:=by omega
    have hu1:(Value.slice bva bvn bvc).oneCell'=true∧(Value.slice ava avn avc).oneCell'=true:=⟨rfl,rfl⟩;clear hg0 hs0 hp0 hu0 hl0 hb0' hdb hda hX2 hLn;have hm3:(k:Int)+1≤256:=by omega
    have hbpw2:bp≤wr.heap.size:=by omega
    go_wp2_with (at_builtin;refine QB rfl _ _ _ rfl bp 69 (by decide) iS _ 2 48 Tryz.underlying53 hiS hy0 hy1 hy2 rfl (by decide) (.slice ua k uc) k xs [.slice bva bvn bvc,.slice ava avn avc] _ rfl HU0.out rfl rfl (by simp[Value.oneCell']) (by unfold maxLen;omega) (by omega) hbpw2 ?_;intro v' w' ho hk hsp;obtain⟨na,nn,nc,rfl⟩:=QT ho;have hst1:w'.heap[bp]? =some (.cells #[.int .u64 zs.length,.int .u64 leaf,.slice ua k uc] 55 (0,0)):=(hsp.block bp hpw (fun e=>yO HU0.out HP0.out (by decide) bp e rfl)).trans HP0.out;have n2:w'.cell? ⟨bp,2,none⟩=some (.slice ua k uc):=qa hst1 2;obtain⟨-,fz⟩:=J2 hst1;have hs9:bp<w'.heap.size:=(Ai hst1).1;have HHO:=hid ho;have HHK:=hid hk;have HHSP:=hid hsp;have HST1:=hid hst1;clear ho hk hsp hst1)
    have hbu:=(But.refl bp w').set 2 (.slice na nn nc);have hlx:ListsV bp w' (xs++[.slice bva bvn bvc]++[.slice ava avn avc]) _ E:=HL0.out.keep HHK.out (fun a q hq=>HHSP.out.block q (HL0.out.xlt a q hq).2 (fun e=>by
     obtain⟨cc,hcc⟩:=Yu HU0.out q e;exact HL0.out.xoff hcc (by decide) a q hq rfl))
    have hly:=hlx.off HST1.out (by decide) (by decide) hbu;rw[show min (d - f) c=c by omega,show d - f - c - 1=d - (f+c) - 1 by omega,←HLL.out]at hly;have hu9:(w'.setCell ⟨bp,2,none⟩ (.slice na nn nc)).ownsRow bp 69 2 (.slice na nn nc) (k+1) (xs++[.slice bva bvn bvc]++[.slice ava avn avc]):=by
     have e:xs++[Value.slice bva bvn bvc]++[.slice ava avn avc]=xs++[.slice bva bvn bvc,.slice ava avn avc]:=by simp
     rw[e];exact QV HHO.out (fun q hq=>hbu.block q (qM HHO.out q hq) (fun e=>yO HHO.out HST1.out (by decide) q hq e))
    exact⟨⟨k+1,_,_,E,by go_num,by omega,block_setCell HST1.out _,hu9,hly,(HB0.out.trans HHK.out.below).setCell Nl _⟩,by simp[intOf];omega⟩
  obtain rfl:m=k:=by omega
  have HOWN:=hid hown;have HLS:=hid hls;have HPB:=hid hpb;have hRB:=qd HRP5.out (hbp▸hb);have HBV:=hid (HB5.out.trans (hb.mono (show b0≤bp by omega)));obtain⟨cR,fR⟩:=J2 hRB;obtain⟨cP,fP⟩:=J2 hpb;have hs0:b0+1<wr.heap.size:=by omega
  have HRB:=hid hRB;clear hown hls hpb hRB hb;go_wp2_with fail
  have hbu:=((((But.refl (b0+1) wr).set 0 (.int .u64 zs.length)).set 1 (.int .u64 leaf)).set 2 (.slice ua m uc));exact Bp (qB rfl _ _ _ _ _ _ _ rfl (qfa HRB.out _ _ _) Tryz.underlying55 rfl (by kernel_rfl)) rfl ⟨_,xs,DS,rfl,by rw[hb0];exact⟨ownsRow_le (QV HOWN.out (fun q hq=>hbu.block q (qM HOWN.out q hq) (by have:=yP HOWN.out q hq;omega))) (by omega),(HLS.out.off HRB.out (by decide) (by decide) hbu).le (by omega)⟩,by rw[hb0];exact qfb HBV.out (by omega) _ _ _⟩
end Go.Proofs.YtahenngmaoellaaGreat
namespace Go.Proofs.YtahenngmaoellaaGreat
open Go.ChangeShapes Go.WideShapes Go.ChangeAt Go.RowKit Go.Joins Go.Shelf Go.Maps
open Go.Lib (hid)
theorem J0 {n:Nat}(hn:1≤n)(zs:List Int)(k:Nat):qz (QH n zs) k=(zs.drop (k*n)).take n:=by
 unfold QH;by_cases hz:zs=[]
 ·rw[if_pos hz,hz]
  cases k<;>simp[qz]
 ·rw[if_neg hz];by_cases hk:k<qH zs.length n
  ·simp[qz,zn,piece,Lg,hk]
  ·have h2:=mt (zF (n:=zs.length) (d:=n) (j:=k) hn).2 hk;rw[List.drop_eq_nil_of_le (by omega)];unfold qz;rw[Lg,List.getElem?_eq_none (by rw[Qq];omega)];simp
theorem qbr {t:TreeV}(h:t.validE=0)(hl:0≤t.l∧t.l≤4294967295)(kz z1 z2 zs:List Int)(hn:zs.length≤4194304){m k:Nat}(hm:(t.rowsOf zs.length).length - 1=m)(hk:k<m): ∀d∈t.lvlZ kz z1 z2 (t.leafZ kz z1 z2 zs) k,(d.length:Int)=t.i∧ ∀a∈d,0≤a∧a≤255:=by
 have her:=yA h hn;have hL:=Qb h hl kz z1 z2 zs;have htop:=qc6 her kz z1 z2 (Yg h hl kz z1 z2 zs) hL.2.2;rw[hm]at htop;have hrt:t.rtR kz z1 z2 zs k=false:=by
  cases k with
  | zero=>rfl
  | succ r=>
   have:=htop.2.2 (r+1) (by omega) hk
   rw[Nat.add_sub_cancel]at this;exact this
 rw[TreeV.lvl_is,hrt];intro d hd;obtain⟨i, -,rfl⟩:=List.mem_map.1 hd;exact⟨Zz h ..,fun a ha=>yG _ _ _ _ _ _ _ _ _ a ha⟩
theorem Zw {t:TreeV}(h:t.validE=0){n leaf:Nat}(hn:n≤4194304)(hleaf:leaf<lvs n t.ln):t.spotE n 0 leaf=0:=by
 have her:=yA h hn;have hR:=qA her;have hlen:=hR.len;unfold TreeV.spotE;rw[if_neg (by simp[her]),if_pos ⟨by omega,by show 0<_;omega,by show leaf<nth (t.rowsOf n) 0;rw[hR.first];exact hleaf⟩]
theorem Zv {t:TreeV}(h:t.validE=0)(hl:0≤t.l∧t.l≤4294967295)(kz z1 z2 zs:List Int)(hn:zs.length≤1048576){leaf m:Nat}(he:t.spotE zs.length 0 leaf=0)(hm:(t.rowsOf zs.length).length - 1=m):
  qbu t.i m (chI t zs.length leaf) (afI t zs.length leaf) (t.stepsZ kz z1 z2 zs leaf m)∧jy 1048576 (t.stepsZ kz z1 z2 zs leaf m):=by
 have her:=yA h (show zs.length≤4194304 by omega);have hR:=qA her;have hlen:=hR.len;have hmost:=hR.most;have hL:=Qb h hl kz z1 z2 zs;have hlr:=QP her kz z1 z2 (Yg h hl kz z1 z2 zs) hL.2.2;obtain⟨hkf, -,i1,i2, -⟩:=j8 hl (show(zs.length:Int)≤18446744073709551615 by omega) he;have hvf:=qk h;have hpn:t.pn≤255:=by have:=hvf.2.2.2.2.2.2.2.1;unfold TreeV.pn;omega
 have hone: ∀k,k<m→((t.stepZ kz z1 z2 zs leaf k).1.length:Int)=chI t zs.length leaf k∧((t.stepZ kz z1 z2 zs leaf k).2.length:Int)=afI t zs.length leaf k∧(t.stepZ kz z1 z2 zs leaf k).1.length≤1048576∧(t.stepZ kz z1 z2 zs leaf k).2.length≤1048576∧
   ∀d∈(t.stepZ kz z1 z2 zs leaf k).1++(t.stepZ kz z1 z2 zs leaf k).2,(d.length:Int)=t.i∧ ∀a∈d,0≤a∧a≤255:=fun k hk=>by
  have hK:=hkf k (by omega);have hto:=zd (l:=t.ln) (by have:=hvf.2.2.2.2.2.2.2.2.1;unfold TreeV.ln;omega) hR (k:=k+1) (by omega) (by omega) (yC hR (zY hl he).2.2.2 (k+1) (by omega));have hto2:(qw t zs.length leaf (k+1)).to_≤nth (t.rowsOf zs.length) k:=hto;have hlk:=hlr k (by omega);have hF:=Qa h kz z1 z2 hL.1 hL.2.2 k;have e1:=hK.le;have e2:=hK.lt;have h3:=hL.2.1;have h4:=hF.2.1;have hit:=qbr h hl kz z1 z2 zs (by omega) hm hk;have l1:(t.stepZ kz z1 z2 zs leaf k).1.length=chN t zs.length leaf k:=by
   unfold TreeV.stepZ chN;simp only[List.length_take,List.length_drop];omega
  have l2:(t.stepZ kz z1 z2 zs leaf k).2.length=afN t zs.length leaf k:=by
   unfold TreeV.stepZ afN;simp only[List.length_take,List.length_drop];omega
  refine⟨by rw[l1,qhy hK],by rw[l2];rfl,?_,?_,fun d hd=>?_⟩
  ·rw[l1];unfold chN;omega
  ·rw[l2];unfold afN;omega
  ·refine hit d ?_;rcases List.mem_append.1 hd with hd|hd
   ·exact List.mem_of_mem_drop (List.mem_of_mem_take hd)
   ·exact List.mem_of_mem_drop (List.mem_of_mem_take hd)
 refine⟨⟨yV ..,fun j hj=>?_⟩,?_,fun s hs=>?_⟩
 ·obtain⟨a1,a2, -, -,a5⟩:=hone j hj;unfold JA;rw[Y7 _ _ _ _ _ _ hj];exact⟨a1,a2,fun d hd=>(a5 d hd).1⟩
 ·rw[yV];omega
 ·obtain⟨k,hk,rfl⟩:=List.mem_map.1 hs;obtain⟨-, -,a3,a4,a5⟩:=hone k (List.mem_range.1 hk);exact⟨⟨a3,fun d hd=>⟨by have:=(a5 d (List.mem_append_left _ hd)).1;omega,(a5 d (List.mem_append_left _ hd)).2⟩⟩,⟨a4,fun d hd=>⟨by have:=(a5 d (List.mem_append_right _ hd)).1;omega,(a5 d (List.mem_append_right _ hd)).2⟩⟩⟩
theorem z9 {t:TreeV}(h:t.validE=0)(hl:0≤t.l∧t.l≤4294967295)(kz z1 z2 zs ys:List Int)(hyz:ys.length=zs.length)(hn:zs.length≤1048576){leaf m:Nat}(hleaf:leaf<lvs zs.length t.ln)(hm:(t.rowsOf zs.length).length - 1=m)
  (hs: ∀k,k≠leaf→qz (QH t.ln ys) k=qz (QH t.ln zs) k):
  t.fitsQ zs.length leaf (t.stepsZ kz z1 z2 zs leaf m) (qz (QH t.ln ys) leaf)∧t.rootE zs.length leaf (t.stepsZ kz z1 z2 zs leaf m) (qz (QH t.ln ys) leaf)=0∧t.rootD kz z1 z2 zs.length leaf (t.stepsZ kz z1 z2 zs leaf m) (qz (QH t.ln ys) leaf)=t.digZ kz z1 z2 ys:=by
 have he:=Zw h (show zs.length≤4194304 by omega) hleaf;have her:=yA h (show zs.length≤4194304 by omega);have hR:=qA her;have hln:1≤t.ln:=by
  have:=(qk h).2.2.2.2.2.2.2.2.1
  unfold TreeV.ln;omega
 have hfit:t.fitsQ zs.length leaf (t.stepsZ kz z1 z2 zs leaf m) (qz (QH t.ln ys) leaf):=by
  refine⟨?_,by rw[hm];exact(Zv h hl kz z1 z2 zs hn he hm).1⟩;rw[J0 hln,List.length_take,List.length_drop,hyz];have hsp:=zY hl he;have hn0: ¬(1≤0∧nth (t.rowsOf zs.length) 0=1):=by omega
  unfold qw Qr at*;by_cases h2:leaf=nth (t.rowsOf zs.length) 0 - 1
  ·rw[yM hn0 h2]at hsp⊢;simp only[if_true]at hsp⊢;rw[hR.first]at h2;have:zs.length≤leaf*t.ln+t.ln:=by
    unfold lvs at h2;have h5:=jv (m:=zs.length) (d:=t.ln) (k:=leaf+1) (by omega);by_cases h6:zs.length=0
    ·omega
    ·have h7:qH zs.length t.ln≤leaf+1:=by
      have:=z8 (d:=t.ln) (n:=zs.length) (by omega)
      omega
     have:=h5 h7
     rw[Nat.add_mul,Nat.one_mul]at this;exact this
   omega
  ·rw[Yk hn0 h2]at hsp⊢;simp only[if_true]at hsp⊢;rw[Nat.add_mul,Nat.one_mul]at hsp⊢;omega
 refine⟨hfit,?_,?_⟩
 ·unfold TreeV.rootE;rw[if_neg (by simp[he]),if_pos hfit]
 ·unfold TreeV.rootD;rw[if_pos ⟨he,hfit⟩,hm];exact qaD h hl kz z1 z2 zs ys hyz (by omega) (by rw[hR.first];exact hleaf) hs m hm
theorem qfl {B:Nat}{w:World}{v:Value}{L:List (List Int)}{ds:List Value}(h:DigV B w v L ds):pRowsAt w v L:=by
 rcases h.1.2 with⟨rfl,e⟩|⟨g,cap,cur,rfl, -⟩
 ·exact⟨none,0,fun _=>undef,by rw[e],fun _=>rfl,.inl (List.eq_nil_of_length_eq_zero e)⟩
 ·refine⟨_,cap,fun i=>ds.getD i undef,rfl,(fun e=>by cases e),?_⟩;by_cases h0:L.length=0
  ·exact .inl (List.eq_nil_of_length_eq_zero h0)
  ·obtain⟨g',cap',e, -,h2,h3⟩:=qcp h.1 (by omega);simp only[Value.slice.injEq,Option.some.injEq,Addr.mk.injEq,and_true,true_and]at e;obtain⟨rfl, -⟩:=e;refine .inr ⟨g,0,rfl,h2,fun i hi=>⟨?_,(h.2 i hi).hold.holds8⟩⟩;rw[Nat.zero_add];refine h3 i _ ?_;have:=h.len
   show ds[i]? =some (ds.getD i undef)
   rw[Lg,List.getElem?_eq_getElem (by omega)];rfl
theorem qgB {B m leaf:Nat}{w:World}{u:Value}{xs:List Value}{DS:List (List Value)}{t:TreeV}{kz z1 z2 zs:List Int}(ho:w.ownsRow B 69 2 u m xs)(h:ListsV B w xs (t.llZ kz z1 z2 zs leaf m) DS):StepsAt w u (t.stepsZ kz z1 z2 zs leaf m):=by
 have hll:=TreeV.llZ_length t kz z1 z2 zs leaf m;have hsl:=yV t kz z1 z2 zs leaf m;rcases ho.2 with⟨rfl,e⟩|⟨g,cap,cur,rfl,h1,h2,h3,h4,h5,h6⟩
 ·exact⟨none,0,fun _=>undef,fun _=>undef,by rw[hsl,e],fun _=>rfl,.inl (List.eq_nil_of_length_eq_zero (by omega))⟩
 ·refine⟨_,cap,fun i=>xs.getD (i*2) undef,fun i=>xs.getD (i*2+1) undef,by rw[hsl],(fun e=>by cases e),.inr ⟨g,0,rfl,(Ai h2).1,fun i hi=>?_⟩⟩;rw[hsl]at hi;have hx:=h.lx;have hc: ∀j,j<m*2→w.cell? ⟨g,0+j,none⟩=some (xs.getD j undef):=fun j hj=>by
   rw[qa h2 (0+j),Nat.zero_add];have e:cur.toList[j]? =xs[j]? :=by rw[←h6,List.getElem?_take,if_pos (by omega)]
   rw[←Array.getElem?_toList,e,Lg,List.getElem?_eq_getElem (by omega)];rfl
  have ha:=Jy t kz z1 z2 zs leaf m i hi;rw[Y7 _ _ _ _ _ _ hi];have r1:=qfl (h.each (i*2) (by omega));have r2:=qfl (h.each (i*2+1) (by omega));rw[ha.1]at r1;rw[ha.2]at r2;exact⟨hc _ (by omega),by have:=hc (i*2+1) (by omega);rw[show 0+(i*2+1)=0+i*2+1 by omega]at this;exact this,r1,r2⟩
end Go.Proofs.YtahenngmaoellaaGreat
namespace Go.Proofs.YtahenngmaoellaaGreat
open Go.ChangeShapes Go.WideShapes Go.ChangeAt Go.RowKit Go.Joins Go.Shelf Go.Maps
open Go.Lib (hid)
attribute [local go_sem] Oper.semAt_some
theorem gp {a0 A:Act}{x:Tmp→Value}{ds:List Tmp}{gs:List (Value→World→Prop)}{init:List Oper}{W:World}{after:Array Edge}{q:Value→World→Prop}{oe:Oper}(hA:JC a0 x ds A)
  (hdep: ∀e∈after,Region.binds .any e=true→ ∀oe,init[e.on]? =some oe→QF gs e.on (qL x oe) W) (i s:Nat)
  (h1:s∈ds:=by decide) (h2:(⟨i,.data⟩:Edge)∈after:=by simp) (h3:init[i]? =some oe:=by rfl) (h4:qL x oe=x s:=by rfl) (h5:QF gs i=q:=by rfl):q (A.tmps.getD s undef) W:=by
 have:=hdep _ h2 rfl oe h3
 rw[h5,h4]at this;rw[hA.1 s h1];exact this
def PairO (B:Nat)(D:List Int)(v:Value)(W:World):Prop:= ∃u,v= .tuple #[u,.int .i64 0]∧OwnB B W u D
theorem PairO.below {B:Nat}{D:List Int}{v:Value}{W W':World}(h:PairO B D v W)(hb:Below W.heap.size W W'):PairO B D v W':=by
 obtain⟨u,e,h⟩:=h;exact⟨u,e,h.kb (KB.of_below hb (Nat.zero_le _))⟩
def BytO (B:Nat)(D:List Int)(v:Value)(W:World):Prop:=OwnB B W v D
theorem BytO.below {B:Nat}{D:List Int}{v:Value}{W W':World}(h:BytO B D v W)(hb:Below W.heap.size W W'):BytO B D v W':=OwnB.kb h (KB.of_below hb (Nat.zero_le _))
def za (zs os:List Int)(F j:Nat):List Int:=zs.take F++os.take j++zs.drop (F+j)
theorem qeH (zs os:List Int)(F:Nat):za zs os F 0=zs:=by simp[za]
theorem zW {zs os:List Int}{F j:Nat}(h1:F+j≤zs.length)(h2:j≤os.length):(za zs os F j).length=zs.length:=by
 simp only[za,List.length_append,List.length_take,List.length_drop];omega
theorem JP {zs os:List Int}{F j:Nat}(h1:F+j≤zs.length)(h2:j≤os.length)(i:Nat):(za zs os F j)[i]? =if F≤i∧i<F+j then os[i - F]? else zs[i]? :=by
 unfold za;by_cases h3:i<F
 ·rw[List.append_assoc,List.getElem?_append_left (by rw[List.length_take];omega),List.getElem?_take,if_pos h3,if_neg (by omega)]
 ·by_cases h4:i<F+j
  ·rw[List.append_assoc,List.getElem?_append_right (by rw[List.length_take];omega),List.getElem?_append_left (by simp only[List.length_take];omega),List.getElem?_take,if_pos (by rw[List.length_take];omega),if_pos ⟨by omega,h4⟩,List.length_take,show i - min F zs.length=i - F by omega]
  ·rw[List.getElem?_append_right (by simp only[List.length_append,List.length_take];omega),List.getElem?_drop,if_neg (by omega)];congr 1
   simp only[List.length_append,List.length_take];omega
theorem qf5 {zs os:List Int}{F j:Nat}(h1:F+j<zs.length)(h2:j<os.length):(za zs os F j).set (F+j) (qn os j)=za zs os F (j+1):=by
 refine List.ext_getElem? fun i=>?_
 rw[JP (by omega) (by omega),List.getElem?_set];by_cases h3:F+j=i
 ·subst h3;rw[if_pos rfl,if_pos (by rw[zW (by omega) (by omega)];exact h1),if_pos ⟨by omega,by omega⟩,show F+j - F=j by omega,List.getElem?_eq_getElem h2];simp[qn,Lg,h2]
 ·rw[if_neg h3,JP (by omega) (by omega)];by_cases h4:F≤i∧i<F+j
  ·rw[if_pos h4,if_pos (by omega)]
  ·rw[if_neg h4,if_neg (by omega)]
theorem qdy {n:Nat}(hn:1≤n){zs os:List Int}{leaf j k:Nat}(h1:leaf*n+j≤zs.length)(h2:j≤os.length)(h3:j≤n)(hk:k≠leaf):qz (QH n (za zs os (leaf*n) j)) k=qz (QH n zs) k:=by
 rw[J0 hn,J0 hn];refine List.ext_getElem? fun i=>?_
 rw[List.getElem?_take,List.getElem?_take];split
 ·rename_i hi;rw[List.getElem?_drop,List.getElem?_drop,JP h1 h2,if_neg];intro ⟨a1,a2⟩;rcases Nat.lt_or_gt_of_ne hk with h5|h5
  ·have:=Nat.mul_le_mul_right n (show k+1≤leaf by omega)
   rw[Nat.add_mul,Nat.one_mul]at this;omega
  ·have:=Nat.mul_le_mul_right n (show leaf+1≤k by omega)
   rw[Nat.add_mul,Nat.one_mul]at this;omega
 ·rfl
theorem OwnB.open {B:Nat}{w:World}{x:Value}{z:List Int}(h:OwnB B w x z)(hz:0<z.length): ∃g cap cur,x= .slice (some ⟨g,0,none⟩) z.length cap∧B≤g∧w.heap[g]? =some (.cells cur 5 (0,0))∧z.length≤cap∧cap≤cur.size∧ ∀j,j<z.length→w.cell? ⟨g,j,none⟩=some (.int .u8 (qn z j)):=by
 rcases h.2 with⟨rfl, -⟩|⟨g,cap,cur,rfl,h1,h2,h3,h4,h5,h6⟩
 ·simp at hz
 ·refine⟨g,cap,cur,rfl,h1,h2,h3,h4,fun j hj=>?_⟩;rw[qa h2 j];have e:cur.toList[j]? =(z.map qo)[j]? :=by rw[←h6,List.getElem?_take,if_pos hj]
  rw[←Array.getElem?_toList,e,List.getElem?_map,List.getElem?_eq_getElem hj];simp[qo,qn,Lg,hj]
theorem OwnB.set {B g cap i:Nat}{w:World}{ys:List Int}{z:Int}(h:OwnB B w (.slice (some ⟨g,0,none⟩) ys.length cap) ys)(hi:i<ys.length)(hz:0≤z∧z≤255):OwnB B (w.setCell ⟨g,i,none⟩ (.int .u8 z)) (.slice (some ⟨g,0,none⟩) (ys.set i z).length cap) (ys.set i z):=by
 refine⟨fun a ha=>?_,?_⟩
 ·rcases List.mem_or_eq_of_mem_set ha with h1|h1
  ·exact h.1 a h1
  ·rw[h1];exact hz
 ·rcases h.2 with⟨-,e⟩|⟨g',cap',cur,e,h1,h2,h3,h4,h5,h6⟩
  ·cases e
  ·simp only[Value.slice.injEq,Option.some.injEq,Addr.mk.injEq,and_true,true_and]at e;obtain⟨rfl,rfl⟩:=e;refine .inr ⟨g,cap,cur.setIfInBounds i (.int .u8 z),rfl,h1,block_setCell h2 _,by rw[List.length_set];exact h3,by simpa using h4,h5,?_⟩;rw[List.length_set,Array.toList_setIfInBounds,List.take_set,h6,List.map_set];rfl
theorem qdU (zs:List Int)(v:Value)(w:World)(h:Hold w v zs)(hn:zs.length≤70368744177664):
  Calls Tryz.prog 29 #[v] w fun e w'=> ∃u,e= .returned u∧OwnB w.heap.size w' u zs∧Below w.heap.size w w':=by
 obtain⟨i0,hi,hz0,hz1,hz2⟩:=info_parts Qn;obtain⟨b0,hb0⟩:=Ex w.heap.size;have hb1:Below b0 w (w.alloc (.cells #[] 5)):=by rw[←hb0];exact Br.alloc Nl _
 have HS:=hid (h.below (hb0▸hb1)).src;have HB:=hid h.1;have hrow:(w.alloc (.cells #[] 5)).ownsRow b0 5 1 (.slice (some ⟨b0,0,none⟩) 0 0) 0 []:=⟨rfl,.inr ⟨b0,0,#[],rfl,Nat.le_refl _,by rw[←hb0];exact Wn _ _,Nat.le_refl _,Nat.zero_le _,rfl,rfl⟩⟩;obtain⟨a,c,rfl, -, -⟩:=h.slice;have HROW:=hid hrow;have HB1:=hid hb1;clear h hrow hb1;go_enter Tryz.func29,Tryz.ntmps29
 go_wp2_with (at_builtin;(try rw[hb0]);refine qN rfl _ _ _ rfl w b0 hb0.symm HB1.out 5 i0 (.int .u8 0) 1 Tryz.underlying24 hi hz0 hz1 hz2 rfl _ 0 [] rfl HROW.out _ _ _ rfl HS.out (by unfold maxLen;omega) (by omega) ?_;intro v' w' hown' hb')
 go_ret
 rw[Nat.zero_add,List.nil_append]at hown';exact⟨_,rfl,by rw[hb0];exact⟨HB.out,yQ hown'⟩,by rw[hb0];exact hb'⟩
theorem qfO {α:Type}{l:List α}{a b:Nat}(h:(l.take a).length=b):l.take b=l.take a:=by
 rw[List.length_take]at h;subst h;by_cases h2:a≤l.length
 ·rw[Nat.min_eq_left h2]
 ·rw[Nat.min_eq_right (by omega),List.take_of_length_le Nl,List.take_of_length_le (by omega)]
theorem TreeV.digZ_len64 (t:TreeV)(hl:0≤t.l∧t.l≤4294967295)(kz z1 z2 zs:List Int):(t.digZ kz z1 z2 zs).length≤64:=by
 unfold TreeV.digZ;split
 ·rename_i h;have hL:=Qb h hl kz z1 z2 zs;have hF:=Qa h kz z1 z2 hL.1 hL.2.2 ((t.rowsOf zs.length).length - 1);unfold qz;rw[Lg]
  cases e:(t.lvlZ kz z1 z2 (t.leafZ kz z1 z2 zs) ((t.rowsOf zs.length).length - 1))[0]? with
  | none=>simp
  | some z=>exact hF.2.2 z (List.mem_of_getElem? e)
 ·simp
theorem qaA (t:TreeV)(n nr:Nat)(hn:n≤1048576)(hl:0≤t.l∧t.l≤4294967295)(va:Option Addr)(vc:Nat)(ov:Value)(w:World)(hval:t.validE≠0):
  Calls Tryz.prog 8 #[t.val,.slice va n vc,ov,.int .u16 nr] w (qfA w):=by
 obtain⟨b0,hb0⟩:=Ex w.heap.size;have her:t.err n≠0:=fun e=>hval (QU e)
 have HLV:=hid (jH t hl n (by omega) her);have hq:(t.err n != 0)=true:=by rw[bne_iff_ne];exact her
 have hju:IntKind.u64.wrap (n:Int)=(n:Int):=u64_wrap_id _ (by omega) (by omega);generalize t.err n=ev at*;clear her hval;unfold TreeV.val at*;go_enter Tryz.func8,Tryz.ntmps8
 go_upto_region 1 with(fail)
 refine qj ?_;intro wA hwA;have hrT:wA.heap[b0]? =some (.cells #[.int .i64 t.k,.int .i64 t.d,.int .i64 t.f,.int .i64 t.p,.int .u32 t.l,.int .i64 t.i,.slice t.ka t.kl t.kc,.slice t.sa t.sl t.sc,.slice t.pa t.pl t.pc] 26 (0,0)):=by rw[hwA];exact qc _ _ hb0.symm
 have hbA:Below b0 w wA:=by rw[hwA,←hb0];exact Br.alloc Nl _
 have hsA:b0<wA.heap.size:=(Ai hrT).1;clear hwA;go_wp2_with fail
 refine(jI wA).mono ?_;rintro e w1 ⟨rfl,hc1⟩;have hr1:=qd hrT hc1;have HB1:=hid (hbA.trans (hc1.mono (show b0≤wA.heap.size by omega)));have hs1:b0<w1.heap.size:=by have:=hc1.size;omega
 clear hc1 hrT hbA hsA;go_wp2_with ((with_reducible show wpList _ _ _ (Oper.mk _ (Op.load 26 _) _ _ _ _::_) _ _);refine wpList_load_row rfl 26 _ rfl b0 rfl _ _ _ _ hr1 Tryz.underlying26 rfl (by kernel_rfl) ?_)
 refine(HLV.out w1).mono ?_;rintro e w2 ⟨rfl,hc2⟩;have HB2:=hid (HB1.out.trans (hc2.mono (show b0≤w1.heap.size by omega)));clear hc2 hr1;go_wp2_with fail
 go_ret
 exact⟨rfl,by rw[hb0];exact HB2.out⟩
theorem JM (t:TreeV)(kz z1 z2 zs os:List Int)(nr:Nat)(hnr:nr≤65535)(hl:0≤t.l∧t.l≤4294967295)(v ov:Value)(w:World)(h:TreeH w t kz z1 z2)(hv:Hold w v zs)(hn:zs.length≤1048576)(ho:Hold w ov os)(hol:os.length≤1048576):
  Calls Tryz.prog 8 #[t.val,v,ov,.int .u16 nr] w (qfA w):=by
 obtain⟨b0,hb0⟩:=Ex w.heap.size;obtain⟨va,vc,rfl,hvc1,hvc2⟩:=id hv.slice;obtain⟨oa,oc,rfl,hoc1,hoc2⟩:=id ho.slice;by_cases hval:t.validE=0
 case neg=>exact qaA t zs.length nr hn hl va vc _ w hval
 have her:=yA hval (show zs.length≤4194304 by omega);have hln:1≤t.ln:=by
  have:=(qk hval).2.2.2.2.2.2.2.2.1
  unfold TreeV.ln;omega
 obtain⟨n,hnn⟩:=Ex (lvs zs.length t.ln);have hn1:1≤n:=by rw[←hnn];unfold lvs;omega
 have HLV:=hid (fun(W:World)=>hnn▸Zk t hl zs.length (by omega) her W);obtain⟨leaf,hleafe⟩:=Ex (nr%n);have hleafb:leaf≤65535:=by rw[←hleafe];exact Nat.le_trans (Nat.mod_le _ _) hnr
 have hleaf:leaf<n:=by rw[←hleafe];exact Nat.mod_lt _ (by omega)
 have he:=Zw hval (show zs.length≤4194304 by omega) (hnn.symm▸hleaf);have hsp:=zY hl he;have hws:=ZC her hsp.2.2.2 (k:=0) (by have:=(qA her).len;omega);have hsr:t.spotR zs.length ((0:Nat):Int) leaf=qw t zs.length leaf 0:=hws.2.1;have hrow:(qw t zs.length leaf 0).row=0∧(qw t zs.length leaf 0).at_=leaf:=⟨hws.2.2.1,hws.2.2.2.1⟩;have hspot:=fun(W:World)=>zA t hl zs.length (by omega) ((0:Nat):Int) leaf W
 rw[hsr,show t.spotE zs.length ((0:Nat):Int) leaf=0 from he]at hspot;unfold SpotV.val at hspot;rw[hrow.1,hrow.2]at hspot;obtain⟨m,hm⟩:=Ex ((t.rowsOf zs.length).length - 1);obtain⟨F,hF⟩:=Ex ((qw t zs.length leaf 0).frm);obtain⟨T,hT⟩:=Ex ((qw t zs.length leaf 0).to_);have hroot:=fun(j:Nat) (h1:F+j≤T) (h2:j≤os.length)=>z9 hval hl kz z1 z2 zs (za zs os F j) (zW (by have:=hsp.2.1;omega) h2) hn (leaf:=leaf) (m:=m) (hnn.symm▸hleaf) hm (fun k hk=>by
  have h3:=(z9 hval hl kz z1 z2 zs zs rfl hn (leaf:=leaf) (m:=m) (hnn.symm▸hleaf) hm (fun _ _=>rfl)).1.1;rw[hF,hT,J0 hln,List.length_take,List.length_drop]at h3;have h4:=hsp.2.2.1;rw[hF]at h4;rw[h4];exact qdy hln (by have:=hsp.2.1;omega) h2 (by omega) hk)
 have hpiece: ∀j,F+j≤T→j≤os.length→((za zs os F j).drop F).take (T - F)=qz (QH t.ln (za zs os F j)) leaf:=fun j h1 h2=>by
  have h3:=(hroot j h1 h2).1.1;rw[hF,hT,J0 hln]at h3;have h4:=hsp.2.2.1;rw[hF]at h4;rw[J0 hln,h4];rw[h4]at h3;exact qfO (by omega)
 rw[hF,hT]at hspot hsp;have hFT:F≤T:=hsp.1;have hTn:T≤zs.length:=hsp.2.1;generalize (qw t zs.length leaf 0).last=la at hspot;generalize (qw t zs.length leaf 0).root=ro at hspot;have HSP:=hid hspot;have HRT:=hid hroot;have HPC:=hid hpiece;have HFIT:=hid (Zv hval hl kz z1 z2 zs hn he hm);have HPV:=hid (fun(W:World) (hb:Below b0 w W)=>qg3 t kz z1 z2 zs leaf (by omega) (.slice va zs.length vc) W ⟨hval,hl,h.k.below (hb0▸hb),h.s.below (hb0▸hb),h.p.below (hb0▸hb)⟩ (hv.below (hb0▸hb)) (by omega) he);rw[hm]at HPV;have HHS:=hid (fun(W:World) (hb:Below b0 w W) (x:Value) (ys:List Int) (hx:Hold W x ys) (hy:ys.length≤4194304)=>qeU t kz z1 z2 ys x W hl (h.k.below (hb0▸hb)) (h.s.below (hb0▸hb)) (h.p.below (hb0▸hb)) hx hy);have HRO:=hid (fun(W:World) (hb:Below b0 w W) (u x:Value) (pz:List Int) (hu:StepsAt W u (t.stepsZ kz z1 z2 zs leaf m)) (hx:Hold W x pz) (hy:pz.length≤1048576)=>qgX t kz z1 z2 pz zs.length leaf (by omega) (by omega) hl u x _ W (h.below (hb0▸hb)) hu HFIT.out.2 hx hy);have HCP:=hid (fun(W:World) (hb:Below b0 w W)=>qdU zs (.slice va zs.length vc) W (hv.below (hb0▸hb)) (by omega));have HO:=hid (fun(W:World) (hb:Below b0 w W)=>ho.below (hb0▸hb));have HDL:=hid (fun ys=>t.digZ_len64 hl kz z1 z2 ys);have HVE:=hid hval;have hju:IntKind.u64.wrap (zs.length:Int)=(zs.length:Int):=u64_wrap_id _ (by omega) (by omega);have hjr:IntKind.u64.wrap (nr:Int)=(nr:Int):=u64_wrap_id _ (by omega) (by omega);have HLE:=hid hleafe;have hov:=HRT.out;have HB255:=hid (⟨hv.1,ho.1⟩:(∀z∈zs,0≤z∧z≤255)∧ ∀z∈os,0≤z∧z≤255);clear hov hval her hln hnn hsp hws hsr hrow hspot hroot hpiece hm hF hT he h hv ho;unfold TreeV.val qcF at*;go_enter Tryz.func8,Tryz.ntmps8
 go_upto_region 1 with(fail)
 refine qj ?_;intro wA hwA;have hrT:wA.heap[b0]? =some (.cells #[.int .i64 t.k,.int .i64 t.d,.int .i64 t.f,.int .i64 t.p,.int .u32 t.l,.int .i64 t.i,.slice t.ka t.kl t.kc,.slice t.sa t.sl t.sc,.slice t.pa t.pl t.pc] 26 (0,0)):=by rw[hwA];exact qc _ _ hb0.symm
 have hbA:Below b0 w wA:=by rw[hwA,←hb0];exact Br.alloc Nl _
 have hsA:b0<wA.heap.size:=(Ai hrT).1;clear hwA;go_wp2_with fail
 refine(jI wA).mono ?_;rintro e w1 ⟨rfl,hc1⟩;have hr1:=qd hrT hc1;have HB1:=hid (hbA.trans (hc1.mono (show b0≤wA.heap.size by omega)));have hs1:b0<w1.heap.size:=by have:=hc1.size;omega
 clear hc1 hrT hbA hsA;go_wp2_with ((with_reducible show wpList _ _ _ (Oper.mk _ (Op.load 26 _) _ _ _ _::_) _ _);refine wpList_load_row rfl 26 _ rfl b0 rfl _ _ _ _ hr1 Tryz.underlying26 rfl (by kernel_rfl) ?_)
 refine(HLV.out w1).mono ?_;rintro e w2 ⟨rfl,hc2⟩;have hr2:=qd hr1 hc2;have HB2:=hid (HB1.out.trans (hc2.mono (show b0≤w1.heap.size by omega)));have hs2:b0<w2.heap.size:=by have:=hc2.size;omega
 clear hc2 hr1 HB1 hs1;have hnp:0<n:=by omega
 have hlq:(nr:Int)%(n:Int)=(leaf:Int):=by rw[←HLE.out];exact(Int.natCast_emod nr n).symm
 go_wp2_with ((with_reducible show wpList _ _ _ (Oper.mk _ (Op.load 26 _) _ _ _ _::_) _ _);refine wpList_load_row rfl 26 _ rfl b0 rfl _ _ _ _ hr2 Tryz.underlying26 rfl (by kernel_rfl) ?_)
 refine(HSP.out w2).mono ?_;rintro e w3 ⟨rfl,hc3⟩;have hr3:=qd hr2 hc3;have HB3:=hid (HB2.out.trans (hc3.mono (show b0≤w2.heap.size by omega)));have hs3:b0<w3.heap.size:=by have:=hc3.size;omega
 obtain⟨bs,hbs⟩:=Ex w3.heap.size;clear hc3 hr2 HB2 hs2;go_upto_region 8 with(fail)
 refine qj ?_;intro w4 hw4;have hrS:w4.heap[bs]? =some (.cells #[.int .i64 0,.int .u64 leaf,.int .u64 F,.int .u64 T,.bool la,.bool ro] 96 (0,0)):=by rw[hw4];exact qc _ _ hbs.symm
 have hc4:Below w3.heap.size w3 w4:=by rw[hw4];exact Br.alloc Nl _
 have hr4:=qd hr3 hc4;have HB4:=hid (HB3.out.trans (hc4.mono (show b0≤w3.heap.size by omega)));have hs4:bs<w4.heap.size:=(Ai hrS).1;clear hw4 hc4 hr3 HB3;have hb0s:b0<bs:=by omega
 clear hs3 hbs;clear w3;go_wp2_with fail
 refine(HCP.out w4 HB4.out).mono ?_;rintro e w5 ⟨x,rfl,hx,hc5⟩;have hr5:=qd hr4 hc5;have hrS5:=qd hrS hc5;obtain⟨bC,hbC⟩:=Ex w4.heap.size;rw[hbC]at hx;have HX:=hid hx;obtain⟨ca,cc,rfl,hcc1,hcc2⟩:=id hx.hold.slice;have HC5:=hid (hbC▸hc5:Below bC w4 w5);have HR4:=hid hr4;have HRS4:=hid hrS;have hbC0:bs<bC:=by omega
 have s2:w5.cell? ⟨bs,2,none⟩=some (.int .u64 F):=qa hrS5 2;have hs5:bs<w5.heap.size:=(Ai hrS5).1;clear hx hc5 hr4 hrS hr5 hrS5;go_wp2_with fail
 go_loopw [15] (fun i wr=> ∃j:Nat,i= .int .i64 ((F+j:Nat):Int)∧F+j≤T∧j≤os.length∧OwnB bC wr (.slice ca zs.length cc) (za zs os F j)∧Below bC w4 wr) (fun i _=>T - (intOf i).toNat)
 case atStart=>exact⟨0,rfl,hFT,Nat.zero_le _,by rw[qeH];exact HX.out,HC5.out⟩
 case round=>
  clear HX HC5 s2 hs5;obtain⟨j,rfl,hj1,hj2,hx,hb⟩:=hrel;have hcl: ∀i,wr.cell? ⟨bs,i,none⟩=w4.cell? ⟨bs,i,none⟩:=fun i=>hb.cell (p:=⟨bs,i,none⟩) hbC0
  have s2:wr.cell? ⟨bs,2,none⟩=some (.int .u64 F):=(hcl 2).trans (qa HRS4.out 2);have s3:wr.cell? ⟨bs,3,none⟩=some (.int .u64 T):=(hcl 3).trans (qa HRS4.out 3);have hsw:bs<wr.heap.size:=by have:=hb.size;omega
  have HB0:=hid (HB4.out.trans (hb.mono (show b0≤bC by omega)));by_cases hg:F+j<T∧j<os.length
  case pos=>
   obtain⟨g1,g2⟩:=hg;have g1':(F:Int)+j<T:=by omega
   have g2':(j:Int)<os.length:=by omega
   have hlen:=zW (zs:=zs) (os:=os) (F:=F) (j:=j) (by omega) hj2;obtain⟨q,cap,cur,e1,hq1,hq2,hq3,hq4,hq5⟩:=hx.open (by omega);simp only[Value.slice.injEq]at e1;obtain⟨rfl, -,rfl⟩:=e1;obtain⟨oa',oc',e2,ho2⟩:=(HO.out wr HB0.out).holds8;obtain⟨ob,oo,rfl,hob1,hob2⟩:=ho2.resolve_left (fun e=>by rw[e]at g2;simp at g2);simp only[Value.slice.injEq,true_and]at e2;obtain⟨rfl,rfl⟩:=e2;have c1:=hob2 j g2;have c2:=hq5 (F+j) (by omega);have hz:=HB255.out.2 (qn os j) (by unfold qn;rw[Lg,List.getElem?_eq_getElem g2];exact List.getElem_mem g2);have hset:=hx;rw[show zs.length=(za zs os F j).length from hlen.symm]at hset;have hset2:=hset.set (i:=F+j) (z:=qn os j) (by omega) hz;rw[qf5 (by omega) g2,zW (j:=j+1) (by omega) (by omega)]at hset2;have HSET:=hid hset2;have HB:=hid hb;have hqs:q<wr.heap.size:=(Ai hq2).1;obtain⟨-,fz⟩:=J2 hq2;have hFj:(F:Int)+j<zs.length:=by omega
   have HQ1:=hid hq1;generalize qn os j=zo at*;generalize qn (za zs os F j) (F+j)=zq at*;clear hx hset hset2 hlen hq5 hob2 hz hb hq2 hq3 hq4 hq1 hcl ho2;go_wp2_with fail
   exact⟨⟨j+1,by rw[show((F+(j+1):Nat):Int)=(F:Int)+j+1 by omega],by omega,by omega,HSET.out,HB.out.setCell HQ1.out _⟩,by simp[intOf];omega⟩
  have hex:((F:Int)+(j:Int)<(T:Int))=False∨((F:Int)+(j:Int)<(T:Int)∧((F:Int)+(j:Int) - (F:Int)<(os.length:Int))=False):=by
   by_cases h1:F+j<T
   ·exact .inr ⟨by omega,eq_false (fun h2=>hg ⟨h1,by omega⟩)⟩
   ·exact .inl (eq_false (fun h2=>h1 (by omega)))
  have hr9:=qd HR4.out (hbC▸hb);have hroot:=HRT.out j hj1 hj2;have hpiece:=HPC.out j hj1 hj2;have hlen:=zW (zs:=zs) (os:=os) (F:=F) (j:=j) (by omega) hj2;generalize za zs os F j=Y at*;have HR0:=hid hroot;have HP0:=hid hpiece;have HLN:=hid hlen;have HX:=hid hx;have HBB:=hid hb;have HRS:=hid (qd HRS4.out (hbC▸hb));clear hroot hpiece hlen hx hb hg HRT HPC HLE HLV HSP HCP HB255 HO hcl HB4 HR4 HRS4;rcases hex with g1|⟨g1,g2⟩
  all_goals
   go_upto_region 13 with(fail)
   clear s2 s3 g1;go_wp2_with ((with_reducible show wpList _ _ _ (Oper.mk _ (Op.load 26 _) _ _ _ _::_) _ _);refine wpList_load_row rfl 26 _ rfl b0 rfl _ _ _ _ hr9 Tryz.underlying26 rfl (by kernel_rfl) ?_)
   refine(HPV.out wr HB0.out).mono ?_;rintro e w6 ⟨u,xs,DS,rfl,⟨hown,hls⟩,hc6⟩;have hst:=qgB hown hls;obtain⟨ua,uc,rfl⟩:=zC hown;have hr6:=qd hr9 hc6;obtain⟨bP,hbP⟩:=Ex w6.heap.size;have HST:=hid hst;have HC6:=hid hc6;clear hown hls hst hc6 hr9;go_upto_region 14 with(fail)
   refine qj ?_;intro w7 hw7;have hrP:w7.heap[bP]? =some (.cells #[.int .u64 zs.length,.int .u64 leaf,.slice ua m uc] 55 (0,0)):=by rw[hw7];exact qc _ _ hbP.symm
   have hc7:Below w6.heap.size w6 w7:=by rw[hw7];exact Br.alloc Nl _
   have hr7:=qd hr6 hc7;have h67:Below wr.heap.size wr w7:=HC6.out.trans (hc7.mono HC6.out.size);have hs7:=qd HRS.out h67;have HB7:=hid (HB0.out.trans (h67.mono (show b0≤wr.heap.size by omega)));have HX7:=hid (HX.out.kb (KB.of_below h67 (Nat.zero_le _)));have HST7:=hid (HST.out.below hc7);have hz7:bP<w7.heap.size:=(Ai hrP).1;have hb07:b0<w7.heap.size:=(Ai hr7).1;have hbs7:bs<w7.heap.size:=(Ai hs7).1;clear hw7 hc7 h67 hr6 HC6 HST HRS hbP;clear w6;go_upto_region 16 with(fail)
   obtain⟨A,hA⟩: ∃A,(if cc=F then ca else ca.map (·.add F))=A:=⟨_,rfl⟩;have hsub:Hold w7 (.slice A (T - F) (cc - F)) (qz (QH t.ln Y) leaf):=by
    have:=qdJ (lo:=F) (hi:=T) HX7.out.hold hFT (by have:=HLN.out;omega)
    rw[hA,HP0.out]at this;exact this
   have HSUB:=hid hsub;have HAA:=hid hA;have HPL:=hid (show(qz (QH t.ln Y) leaf).length≤1048576 by have h:=HR0.out.1.1;have h2:=Ya hsub;omega);have hRR:=fun(W:World) (hW:Below w7.heap.size w7 W)=>HRO.out W (HB7.out.trans (hW.mono (by omega))) (.slice ua m uc) (.slice A (T - F) (cc - F)) _ (HST7.out.below hW) (HSUB.out.below hW) HPL.out
   rw[HR0.out.2.1,HR0.out.2.2]at hRR;have HRR:=hid hRR;have hTcc:T≤cc:=by omega
   clear hA hsub hRR;refine qC (n:=14) (w0:=w7) (B:=w7.heap.size) [.v 90 (.agg #[.int .i64 t.k,.int .i64 t.d,.int .i64 t.f,.int .i64 t.p,.int .u32 t.l,.int .i64 t.i,.slice t.ka t.kl t.kc,.slice t.sa t.sl t.sc,.slice t.pa t.pl t.pc]),.v 91 (.agg #[.int .u64 zs.length,.int .u64 leaf,.slice ua m uc]),.v 92 (.slice ca zs.length cc),.v 93 (.pointer (some ⟨bs,2,none⟩)),.v 94 (.int .u64 F),.v 95 (.pointer (some ⟨bs,3,none⟩)),.v 96 (.int .u64 T),.v 97 (.slice A (T - F) (cc - F)),.p 98 (PairO w7.heap.size (t.digZ kz z1 z2 Y)),.p 89 (PairO w7.heap.size (t.digZ kz z1 z2 Y)),.p 99 (BytO w7.heap.size (t.digZ kz z1 z2 Y)),.v 100 (.int .i64 0),.p 18 (BytO w7.heap.size (t.digZ kz z1 z2 Y)),.v 19 (.int .i64 0)] (by exact⟨(fun _ _ _ h hb=>h.below hb),(fun _ _ _ h hb=>h.below hb),(fun _ _ _ h hb=>h.below hb),(fun _ _ _ h hb=>h.below hb),trivial⟩) Br.drew Nl ?_ ?_
   ·repeat' (with_reducible first|exact qx|refine qt ?_ ?_)
    ·intro AA x W hA hW hBW hdep D K hK;have a4:=hA.2 4 (by decide);conv at a4=>rhs;whnf
     clear hdep hA;exact wp_load_row 26 _ rfl b0 a4 _ _ _ _ (qd hr7 hW) Tryz.underlying26 rfl (by kernel_rfl) (hK _ _ Br rfl)
    ·intro AA x W hA hW hBW hdep D K hK;have a16:=hA.2 16 (by decide);conv at a16=>rhs;whnf
     clear hdep hA;exact wp_load_row 55 _ rfl bP a16 _ _ _ _ (qd hrP hW) Tryz.underlying55 rfl (by kernel_rfl) (hK _ _ Br rfl)
    all_goals try
     intro AA x W hA hW hBW hdep D K hK;have a12:=hA.2 12 (by decide);conv at a12=>rhs;whnf
     have a14:=hA.2 14 (by decide);conv at a14=>rhs;whnf
     simp only[QX,Q9]at D;clear hdep hA;first
     | go_simp
       exact hK _ _ BR rfl
     | have y0:W.cell? ⟨bs,2,none⟩=some (.int .u64 F):=qa (qd hs7 hW) 2
       have y1:W.cell? ⟨bs,3,none⟩=some (.int .u64 T):=qa (qd hs7 hW) 3;have y2:bs<W.heap.size:=by omega
       go_simp
       exact hK _ _ BR rfl
    ·intro AA x W hA hW hBW hdep _ K hK;have g92:=gv hA hdep 2 92;have g94:=gv hA hdep 4 94;have g96:=gv hA hdep 6 96;clear hdep hA;go_simp
     rw[HAA.out];exact hK _ _ BR rfl
    ·intro AA x W hA hW hBW hdep _ K hK;have g90:=gv hA hdep 0 90;have g91:=gv hA hdep 1 91;have g97:=gv hA hdep 7 97;clear hdep hA;go_simp
     refine(HRR.out W hW).mono ?_;rintro e w8 ⟨u8,rfl,hu8,hc8⟩;exact hK _ _ hc8 ⟨u8,rfl,hu8.le hBW⟩
    ·intro AA x W hA hW hBW hdep _ K hK;have g98:=gp hA hdep 8 98;clear hdep hA;obtain⟨u8,g98,hu8⟩:=g98;go_simp
     exact hK _ _ BR ⟨u8,rfl,hu8⟩
    ·intro AA x W hA hW hBW hdep _ K hK;have g89:=gp hA hdep 9 89;clear hdep hA;obtain⟨u8,g89,hu8⟩:=g89;go_simp
     exact hK _ _ BR hu8
    ·intro AA x W hA hW hBW hdep _ K hK;have g89:=gp hA hdep 9 89;clear hdep hA;obtain⟨u8,g89,hu8⟩:=g89;go_simp
     exact hK _ _ BR rfl
    ·intro AA x W hA hW hBW hdep _ K hK;have g99:=gp hA hdep 10 99;clear hdep hA;obtain⟨u9,hu9⟩:=Ex (AA.tmps.getD 99 undef);rw[hu9]at g99;go_simp
     exact hK _ _ BR g99
   intro x W hW hBW hall;obtain⟨-, -, -,e18, -⟩:=hall;change OwnB w7.heap.size W (x 18) (t.digZ kz z1 z2 Y)at e18
   have hdl:=HDL.out Y;have hhs:=fun(W:World) (hb:Below b0 w W) (x:Value) (hx:Hold W x Y) (hy:Y.length≤4194304)=>HHS.out W hb x Y hx hy
   unfold qis at hhs;rw[HVE.out]at hhs;generalize t.digZ kz z1 z2 Y=D at*;obtain⟨ra,rc,hre, -, -⟩:=e18.hold.slice;refine qs ?_;simp only[QE,Act.put,Ls,hre];rw[hre]at e18;have hrW:=qd hr7 hW;have HBW:=hid (HB7.out.trans (hW.mono (by omega)));have HXW:=hid (HX7.out.hold.below hW);have HE18:=hid e18;have HHY:=hid hhs;have hb0W:b0<W.heap.size:=by omega
   clear e18 hhs hre hW HRR hr7 hrP hs7;go_wp2_with ((with_reducible show wpList _ _ _ (Oper.mk _ (Op.load 26 _) _ _ _ _::_) _ _);refine wpList_load_row rfl 26 _ rfl b0 rfl _ _ _ _ hrW Tryz.underlying26 rfl (by kernel_rfl) ?_)
   refine(HHY.out W HBW.out _ HXW.out (by have:=HLN.out;omega)).mono ?_;rintro e w9 ⟨u9,rfl,hu9,hc9⟩;obtain⟨ua9,uc9,rfl, -, -⟩:=hu9.hold.slice;have HU9:=hid hu9;have HR9:=hid (HE18.out.hold.below hc9);have HB9:=hid (HBW.out.trans (hc9.mono (show b0≤W.heap.size by omega)));clear hu9 hc9 hrW;go_wp2_with fail
   refine(qdG D _ _ w9 HR9.out.holds8 HU9.out.hold.holds8 (by omega)).mono ?_;rintro e w10 ⟨rfl,mm,rfl⟩;have HBA:=hid (HB9.out.trans (below_draws b0 w9 mm));go_wp2_with fail
   go_ret
   exact⟨rfl,by rw[hb0];exact HBA.out⟩
end Go.Proofs.YtahenngmaoellaaGreat
namespace Go.Proofs.YtahenngmaoellaaGreat
open Go.ChangeShapes Go.WideShapes Go.ChangeAt Go.RowKit Go.Joins Go.Shelf Go.Maps
open Go.Lib (hid)
theorem qg7 {H:Type}{enc:TypeId×Value→H}{w:World}{base b0:Nat}{r:Reach}{spare:Nat→Bool}{held:Bool}{v:Value}{d:DataW H}{ps:List MemPlace}
  (hv:Value.okWide Tryz.prog w r b0 93 v) (h:DataW.Trod enc Tryz.prog w base spare held 93 v d ps):
  ∃n,v= .int .u16 n∧0≤n∧n≤65535:=by
 obtain⟨x,rfl,rfl,rfl,wx⟩:=open_int Tryz.underlying93 hv h;exact⟨x,rfl,bounds_u16 wx⟩
theorem JN {H:Type}(enc:TypeId×Value→H)(W:World)(base:Nat)(args:Array Value)(ds:List (DataW H))(p:List MemPlace)
  (hval: ∀(j:Nat) t v,Tryz.f8.params[j]? =some t→args[j]? =some v→Value.okWide Tryz.prog W .any base t v)
  (hA:DataW.TrodAll enc Tryz.prog W 0 (fun _=>true) true Tryz.f8.params.toList args.toList ds p) (hlt: ∀x∈p,x.block<W.heap.size)
  (hk:Rows.uptoSmall H ds=true):
  Calls Tryz.prog 8 args W (qfA W):=by
 rw[Tryz.params8]at hA hval;obtain⟨v0,v1,v2,v3,d0,d1,d2,d3,p0,p1,p2,p3,rfl,rfl,rfl,h0,h1,h2,h3⟩:=trodAll_four hA;have hb:Rows.uptoBulk d0+(Rows.uptoBulk d1+(Rows.uptoBulk d2+(Rows.uptoBulk d3+0)))≤1048576:=of_decide_eq_true hk;obtain⟨t,kz,z1,z2,rfl,hl,ht,b1,b2,b3⟩:=qeI (hval 0 26 v0 rfl rfl) h0 (fun x hx=>hlt x (by simp[hx]));obtain⟨zs,hzs,mzs⟩:=qal (hval 1 24 v1 rfl rfl) h1 (fun x hx=>hlt x (by simp[hx]));obtain⟨os,hos,mos⟩:=qal (hval 2 24 v2 rfl rfl) h2 (fun x hx=>hlt x (by simp[hx]));obtain⟨nr',rfl,hnr⟩:=qg7 (hval 3 93 v3 rfl rfl) h3;obtain⟨nr,rfl⟩: ∃n:Nat,nr'=n:=⟨nr'.toNat,by omega⟩;exact JM t kz z1 z2 zs os nr (by omega) hl v1 v2 W ht hzs (by omega) hos (by omega)
theorem jU (os:Os)(started:os.Started)(H:Type)(enc:TypeId×Value→H)(F0:Stop.Interp):
  ReturnsInHanded {} Tryz.checked os 8 .any ((Rows.OpenSpec.upto Rows.pathChangesSpec).pre6 enc Tryz.prog Tryz.f8 Rows.pathChangesUptoRow.domain false) (((Rows.OpenSpec.upto Rows.pathChangesSpec).at F0).post enc Tryz.prog Tryz.f8 false true false false):=by
 refine returnsInHanded_of_cond_sized (C:=Tryz.checked) (s:=Rows.OpenSpec.upto Rows.pathChangesSpec) (k:=Rows.uptoSmall) rfl own started (by kernel_rfl) Tryz.func8
  (OpenSpec.witness (enc:=enc) (C:=Tryz.checked) (s:=Rows.OpenSpec.upto Rows.pathChangesSpec) (k:=Rows.uptoSmall) rfl false ⟨#[],#[.agg #[.int .i64 0,.int .i64 0,.int .i64 0,.int .i64 0,.int .u32 0,.int .i64 0,.slice none 0 0,.slice none 0 0,.slice none 0 0],.slice none 0 0,.slice none 0 0,.int .u16 0],[]⟩ 40 (by kernel_rfl) (by kernel_rfl) (by kernel_rfl)
   (x:=([.agg [.lit (.int .i64 0),.lit (.int .i64 0),.lit (.int .i64 0),.lit (.int .i64 0),.lit (.int .u32 0),.lit (.int .i64 0),.nil,.nil,.nil],.nil,.nil,.lit (.int .u16 0)],[],[])) (by kernel_rfl) (by kernel_rfl) (by kernel_rfl)) ?_
 intro W base args ds gs before hval0 hW hcnd hk hz _;have hW':=hW;obtain⟨p,q,hA0,hV,rfl,hfz,hnd⟩:=hW;have hA:DataW.TrodAll enc Tryz.prog W 0 (fun _=>true) true Tryz.f8.params.toList args.toList ds p:=hA0;obtain⟨rfl,rfl⟩:=trodVars_none hV;have hk':Rows.uptoSmall H ds=true:=by rw[←List.append_nil ds];exact hk
 refine(JN enc W base args ds p hval0 hA (fun x hx=>hW'.lt x (by simpa using hx)) hk').mono fun e W' h=>⟨_,h.1,?_⟩
 refine qbI (s:=(Rows.OpenSpec.upto Rows.pathChangesSpec).at F0) qh8 _ rfl Tryz.underlying4 (by decide+kernel) rfl hW' ?_ h.2;have hA':=hA;rw[Tryz.params8]at hA';obtain⟨v0,v1,v2,v3,d0,d1,d2,d3,p0,p1,p2,p3,rfl,rfl,_⟩:=trodAll_four hA';rfl
theorem pathChanges_holds:Rows.PathChangesUptoSaid:=
 OpenClaim.holds_of_cond 8 Tryz.f8 rfl rfl rfl rfl rfl rfl rfl ⟨rfl,rfl,rfl,rfl,rfl⟩ rfl rfl rfl rfl rfl (by kernel_rfl) Tryz.func8 (by kernel_rfl)
  (of_decide_eq_true (by kernel_rfl)) (by unfold Func.isWrapper;first|(rw[if_pos (by decide+kernel)];kernel_rfl)|(rw[if_neg (by decide+kernel)];exact⟨rfl,rfl⟩))
  (fun os started H enc _ F0=>by rw[OpenClaim.pre_of_none' rfl];exact jU os started H enc F0)
#print axioms pathChanges_holds
end Go.Proofs.YtahenngmaoellaaGreat
