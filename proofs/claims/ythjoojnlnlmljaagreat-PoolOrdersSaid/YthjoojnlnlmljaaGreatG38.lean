/- The digest over the leaves' outputs, by the program. No condition. -/
import Derived.Test.YthjoojnlnlmljaaGreatG36
import Derived.Test.YthjoojnlnlmljaaGreatG32
import Derived.Maps.AppendAt
set_option linter.all false
set_option maxRecDepth 100000
set_option maxHeartbeats 8000000
namespace Go.Proofs.YthjoojnlnlmljaaGreat
open Go.ChangeShapes Go.WideShapes Go.ChangeAt Go.RowKit Go.Joins Go.Shelf Go.Maps
attribute [local go_sem] Oper.semAt_some
theorem ListO.get {B:Nat}{w:World}{v:Value}{L:List (List Int)}(h:ListO B w v L){i:Nat}(O:i<L.length): ∃g o x,v= .slice (some ⟨g,0,none⟩) L.length o∧g<w.heap.size∧w.cell? ⟨g,i,none⟩=some x∧OwnB B w x (qQ L i):=by
 obtain⟨vs,G,I⟩:=h;have X:vs.length=L.length:=by have:=G.1;simpa using this
 rcases G.2 with⟨rfl,U⟩|⟨g,o,D,rfl,h1,q,V,Z,Y,J⟩
 ·omega
 ·refine⟨g,o,vs.getD i undef,rfl,(Ai q).1,?_,I i O⟩;rw[qd q i];have e:D.toList[i]? =vs[i]? :=by rw[←J,List.getElem?_take,if_pos (by omega)]
  rw[←Array.getElem?_toList,e,Lg,List.getElem?_eq_getElem (by omega)];rfl
def TreeV.leafZ (t:TreeV)(kz z1 z2 zs:List Int):List (List Int):=t.rowZ kz z1 z2 0 false (yp t.ln zs) (yp t.ln zs).length
theorem yH {t:TreeV}(h:t.validE=0)(G:0≤t.l∧t.l≤4294967295)(kz z1 z2 zs:List Int):t.leafZ kz z1 z2 zs≠[]∧(t.leafZ kz z1 z2 zs).length≤zs.length+1∧ ∀z∈t.leafZ kz z1 z2 zs,z.length≤64:=by
 have o:1≤t.ln:=by
  have:=(qq h).2.2.2.2.2.2.2.2.1
  unfold TreeV.ln;omega
 have I:=qbD zs o;have D:(t.leafZ kz z1 z2 zs).length=(yp t.ln zs).length:=qK ..;exact⟨List.length_pos_iff.1 (by omega),by omega,fun z q=>Zx _ _ _ _ _ _ _ _ z q⟩
theorem OwnB.tend {B:Nat}{w w':World}{x:Value}{z:List Int}(h:OwnB B w x z)(G: ∀(k:Nat) (c:Array Value),w.heap[k]? =some (.cells c 5 (0,0))→w'.heap[k]? =some (.cells c 5 (0,0))):OwnB B w' x z:=by
 refine⟨h.1,?_⟩;rcases h.2 with h|⟨g,o,q,e,J,D,I⟩
 ·exact .inl h
 ·exact .inr ⟨g,o,q,e,J,G _ _ D,I⟩
theorem ListO.tend {B:Nat}{w w':World}{v:Value}{L:List (List Int)}(h:ListO B w v L)(D: ∀(k:Nat) (c:Array Value),w.heap[k]? =some (.cells c 5 (0,0))→w'.heap[k]? =some (.cells c 5 (0,0)))(I: ∀g,v.ownBlock=some g→w'.heap[g]? =w.heap[g]?):ListO B w' v L:=by
 obtain⟨vs,G,q⟩:=h;exact⟨vs,QZ G I,fun i o=>(q i o).tend D⟩
def TreeV.dataR (t:TreeV)(kz z1 z2 zs:List Int):Nat→List (List Int)
 | 0=>yp t.ln zs
 | r+1=>t.upZ (r+1) (t.lvlZ kz z1 z2 (t.leafZ kz z1 z2 zs) r)
def TreeV.rtR (t:TreeV)(kz z1 z2 zs:List Int):Nat→Bool
 | 0=>false
 | r+1=>t.rootZ (r+1) (t.lvlZ kz z1 z2 (t.leafZ kz z1 z2 zs) r).length
def TreeV.callsR (t:TreeV)(kz z1 z2 zs:List Int)(r:Nat):List CallS:=t.rowC kz z1 z2 r (t.rtR kz z1 z2 zs r) (t.dataR kz z1 z2 zs r) (t.dataR kz z1 z2 zs r).length
def TreeV.allC (t:TreeV)(kz z1 z2 zs:List Int)(m:Nat):List (List CallS):=(List.range m).map (t.callsR kz z1 z2 zs)
theorem qdu (t:TreeV)(kz z1 z2 zs:List Int)(r:Nat):t.lvlZ kz z1 z2 (t.leafZ kz z1 z2 zs) r=t.rowZ kz z1 z2 r (t.rtR kz z1 z2 zs r) (t.dataR kz z1 z2 zs r) (t.dataR kz z1 z2 zs r).length:=by
 cases r<;>rfl
theorem qaT (t:TreeV)(kz z1 z2 zs:List Int)(m:Nat):t.allC kz z1 z2 zs (m+1)=t.allC kz z1 z2 zs m++[t.callsR kz z1 z2 zs m]:=by simp[TreeV.allC,List.range_succ]
theorem TreeV.allC_length (t:TreeV)(kz z1 z2 zs:List Int)(m:Nat):(t.allC kz z1 z2 zs m).length=m:=by simp[TreeV.allC]
theorem JN {t:TreeV}(h:t.validE=0)(I:0≤t.l∧t.l≤4294967295)(kz z1 z2 zs:List Int)(r:Nat):1≤(t.dataR kz z1 z2 zs r).length∧(t.dataR kz z1 z2 zs r).length≤zs.length+1∧ ∀i,(qQ (t.dataR kz z1 z2 zs r) i).length≤64*(zs.length+1):=by
 have G:=yH h I kz z1 z2 zs;have q:1≤t.ln:=by
  have:=(qq h).2.2.2.2.2.2.2.2.1
  unfold TreeV.ln;omega
 cases r with
 | zero=>
  have o:=qbD zs q;exact⟨o.1,o.2,fun i=>by have:=qbC (n:=t.ln) zs i;show(qQ (yp t.ln zs) i).length≤_;omega⟩
 | succ r=>
  have D:=QM h kz z1 z2 G.1 G.2.2 r;have o:=YO h (r+1) D.1;refine⟨o.1,?_,fun i=>?_⟩
  ·show(t.upZ (r+1) _).length≤_;omega
  ·have J:=zk t (r+1) (t.lvlZ kz z1 z2 (t.leafZ kz z1 z2 zs) r) i;have O:=yZ D.2.2;show(qQ (t.upZ (r+1) _) i).length≤_
   omega
theorem qcJ {ops:Array Oper}{J:List Oper}{o:Oper}{a:Act}{Q:Exit→Act→World→Prop}{W:World}(ac:o.guard=none)(s x:Operand)
  (ho:o.op= .call { callee:= .builtin .append,args:= #[s,x],argTypes:= #[67,67] }) (B:Nat) (v:Value) (L:List (List Int)) (z:List Int) (u:Value) (hs:a.eval s=v) (hl:ListO B W v L) (hz:OwnB B W u z)
  (hx:a.eval x= .slice (some ⟨W.heap.size,0,none⟩) 1 1) (af:L.length≤8388608) (hB:B≤W.heap.size)
  (h: ∀v' w',ListO B w' v' (L++[z])→KB B W w'→Spare (fun k=>v.ownBlock≠some k) W w'→(v'.ownBlock=v.ownBlock∨ ∀g,v'.ownBlock=some g→W.heap.size≤g)→wpList Tryz.prog ops Q J (a.put o.dst v') w'):wpList Tryz.prog ops Q (o::J) a (W.alloc (.cells #[u] 24)):=by
 obtain⟨ib,V,Z,ad,X⟩:=info_parts YG;obtain⟨vs,D,ae⟩:=hl;have aa:vs.length=L.length:=by have:=D.1;simpa using this
 refine wpList_append_own_at _ ac s x _ ho B 24 ib (.slice none 0 0) 1 24 Tryz.underlying67 V Z ad X rfl (by decide) v L.length vs hs (D.alloc _) ⟨W.heap.size,0,none⟩ 1 1 [u] hx rfl (cell_one_new W u _) (by simpa using hz.one) (by unfold maxLen;omega) (by omega) (by simp;omega) fun v' w' h2 h3 _ G=>?_
 have q:Spare (fun k=>v.ownBlock≠some k) W w':=(Spare.of_below _ (Br.alloc Nl _)).trans (Spare.of_grown h3) (fun _ _ h=>h);have U:KB B W w':=⟨q.os,q.tape,q.output,q.size,fun k hk=>q.block k (by omega) (fun I=>by
   rcases D.2 with⟨rfl, -⟩|⟨g,ab,Y,rfl,h4, -⟩
   ·cases I
   ·simp only[Value.ownBlock,Option.some.injEq]at I;omega),fun k c O=>by
   rw[q.block k (Ai O).1 (fun I=>?_)]
   ·exact O
   ·rcases D.2 with⟨rfl, -⟩|⟨g,ab,Y,rfl, -,G, -⟩
    ·cases I
    ·simp only[Value.ownBlock,Option.some.injEq]at I;subst I;rw[G]at O;simp only[Option.some.injEq,Obj.cells.injEq]at O;exact absurd O.2.1 (by decide)⟩
 refine h v' w' (ListO.snoc (w:=W) (vs:=vs) ae aa hz h2 U) U q ?_;rcases G with G|G
 ·exact .inl G
 ·exact .inr fun g hg=>by rw[G]at hg;simp only[World.alloc,Array.size_push,Option.some.injEq]at hg;omega
end Go.Proofs.YthjoojnlnlmljaaGreat
