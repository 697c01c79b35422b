/- The walk of shape.Spot. No condition. -/
import Derived.Test.YthjoojnlnlmljaaGreatG25
import Derived.BigQuiet
import Derived.Deep.QuietTactic
import Derived.WalkMore
import Derived.Scope
set_option linter.all false
set_option maxRecDepth 100000
set_option maxHeartbeats 8000000
namespace Go.Proofs.YthjoojnlnlmljaaGreat
open Go.ChangeShapes Go.WideShapes Go.ChangeAt Go.RowKit Go.Joins Go.Shelf Go.Maps
attribute [local go_sem] Oper.semAt_some
theorem qaJ {n:Nat}{P:Program}{c:Code}{Q:Exit→Act→World→Prop}{a:Act}{w:World}(h:c.wpIn Fence.wide n P (Exit.noGoto Q) a w):(Code.scope c).wpIn Fence.wide n P Q a w:=
  wpIn_wide.2 (wp_scope_straight (wpIn_wide.1 h))
theorem yx {W:World}{b:Nat}{a0 a1 a2 U V O:Value}{T:TypeId}{fr:Nat×Nat}(h:W.heap[b]? =some (Obj.cells #[a0,a1,a2,U,V,O] T fr))(D o q G I J:Value):
    ((((((W.setCell ⟨b,0,none⟩ D).setCell ⟨b,1,none⟩ o).setCell ⟨b,2,none⟩ q).setCell ⟨b,3,none⟩ G).setCell ⟨b,4,none⟩ I).setCell ⟨b,5,none⟩ J).heap[b]? =some (Obj.cells #[D,o,q,G,I,J] T fr):=
  block_setCell (block_setCell (block_setCell (block_setCell (block_setCell (block_setCell h D) o) q) G) I) J
theorem YF {W:World}{b c:Nat}(h:c≠b)(D o q G I J:Value):
    ((((((W.setCell ⟨b,0,none⟩ D).setCell ⟨b,1,none⟩ o).setCell ⟨b,2,none⟩ q).setCell ⟨b,3,none⟩ G).setCell ⟨b,4,none⟩ I).setCell ⟨b,5,none⟩ J).heap[c]? =W.heap[c]? :=
  (Below.heap_setCell _ _ _ _ h).trans ((Below.heap_setCell _ _ _ _ h).trans ((Below.heap_setCell _ _ _ _ h).trans ((Below.heap_setCell _ _ _ _ h).trans ((Below.heap_setCell _ _ _ _ h).trans (Below.heap_setCell _ _ _ _ h)))))
theorem yy {B:Nat}{a W:World}(h:Below B a W){b:Nat}(o:B≤b)(G q D I J O:Value):
    Below B a ((((((W.setCell ⟨b,0,none⟩ G).setCell ⟨b,1,none⟩ q).setCell ⟨b,2,none⟩ D).setCell ⟨b,3,none⟩ I).setCell ⟨b,4,none⟩ J).setCell ⟨b,5,none⟩ O):=
  (((((h.setCell (p:=⟨b,0,none⟩) o G).setCell (p:=⟨b,1,none⟩) o q).setCell (p:=⟨b,2,none⟩) o D).setCell (p:=⟨b,3,none⟩) o I).setCell (p:=⟨b,4,none⟩) o J).setCell (p:=⟨b,5,none⟩) o O
theorem qn (w:World)(o:Obj){n:Nat}(q:n=w.heap.size):(w.alloc o).heap[n]? =some o:=by subst q;exact Wn w o
theorem Y2 {P:Program}{fn:Func}{tmps:Array Value}{W:World}{b c:Nat}{V X U I J Z e:Value}{T T':TypeId}{fr fr':Nat×Nat}
    (hr:fn.results= #[.cell 8 96,.cell 9 30]) (h8:tmps[8]?.getD undef= .pointer (some ⟨b,0,none⟩)) (h9:tmps[9]?.getD undef= .pointer (some ⟨c,0,none⟩))
    (o:W.heap[b]? =some (Obj.cells #[V,X,U,I,J,Z] T fr)) (hc:W.heap[c]? =some (Obj.cells #[e] T' fr')) (hP:P=Tryz.prog):
    (results fn tmps).run P W= .ok (.tuple #[.agg #[V,X,U,I,J,Z],e]) W:=by
  subst hP;have O:=qd o 0;have c1:=qd o 1;have c2:=qd o 2;have G:=qd o 3;have Y:=qd o 4;have q:=qd o 5;have D:=qd hc 0;simp only[List.getElem?_toArray,List.getElem?_cons_zero,List.getElem?_cons_succ]at O c1 c2 G Y q D;simp[results,hr,h8,h9,go_sem,O,c1,c2,G,Y,q,D]
theorem qg7 (t:TreeV)(J:0≤t.l∧t.l≤4294967295)(total:Nat)(I:(total:Int)≤18446744073709551615)(h:t.err total≠0)(row:Int)(at_:Nat)(w:World):
    Calls Tryz.prog 105 #[t.val,.int .u64 total,.int .i64 row,.int .u64 at_] w fun e w'=>e= .returned (.tuple #[SpotV.zero.val,.int .i64 (t.err total)])∧Below w.heap.size w w':=by
  have V:(t.err total != 0)=true:=by rw[bne_iff_ne];exact h
  clear h;unfold TreeV.val;go_enter Tryz.func105,Tryz.ntmps105
  go_wp2_with fail
  go_step3
  go_wp2_with fail
  refine(jX t J total I _).mono ?_;rintro e q ⟨rfl,o⟩;obtain⟨X,Y⟩:=zi o;have D:=o.size;simp at D
  go_wp2
  rw[Exit.noGoto_ret];have O:Below w.heap.size w q:=by
    refine Below.trans ?_ (o.mono (by simp;omega));repeat(first|exact Below.refl _ _|(refine Below.alloc ?_ (by simp;omega) _)|(refine Below.alloc ?_ (by simp) _))
  have U:q.heap[w.heap.size+1+1+1+1]? =some (Obj.cells #[.int .i64 0,.int .u64 0,.int .u64 0,.int .u64 0,.bool false,.bool false] 96 (0,0)):=by
    rw[o.block _ (by simp)];rw[Bh _ _ _ (by simp)];exact qn _ _ (by simp)
  have G:q.heap[w.heap.size+1+1+1+1+1]? =some (Obj.cells #[.int .i64 0] 30 (0,0)):=by
    rw[o.block _ (by simp)];exact qn _ _ (by simp)
  refine Bp (Y2 rfl rfl rfl (b:=w.heap.size+1+1+1+1) (c:=w.heap.size+1+1+1+1+1) (T:=96) (fr:=(0,0)) (T':=30) (fr':=(0,0)) ?_ ?_ rfl) rfl ⟨rfl,?_⟩
  · rw[Below.heap_setCell _ _ _ _ (by simp)]
    exact yx U _ _ _ _ _ _
  · exact block_setCell ((YF (by omega) _ _ _ _ _ _).trans G) _
  · exact(yy O (by omega) _ _ _ _ _ _).setCell (by simp;omega) _
end Go.Proofs.YthjoojnlnlmljaaGreat
namespace Go.Proofs.YthjoojnlnlmljaaGreat
open Go.ChangeShapes Go.WideShapes Go.ChangeAt Go.RowKit Go.Joins Go.Shelf Go.Maps
def Zq (L:List Nat)(pre:List (Q5 L)):Nat:=match pre.getLast? with
  | none=>0
  | some k=>nth L k.1
theorem qaE (L:List Nat)(o:List (Q5 L))(x:Q5 L):Zq L (o++[x])=nth L x.1:=by simp[Zq]
def SpotI (w1:World)(L:List Nat)(row:Int)(pre:List (Q5 L))(W:World):Prop:=
  (∀k∈pre,(k.1:Int)<row)∧W.heap[w1.heap.size]? =some (Obj.cells #[.int .u64 (Zq L pre)] 44 (0,0))∧Below w1.heap.size w1 W
def ZI (f l total:Nat)(row at_ n b:Nat):Array Value:=
  if 1≤row∧n=1 then #[.int .i64 row,.int .u64 at_,.int .u64 0,.int .u64 b,.bool ((at_:Int)==(n:Int) - 1),.bool true]
  else if(at_:Int)=(n:Int) - 1 then #[.int .i64 row,.int .u64 at_,.int .u64 (IntKind.u64.wrap (at_*(if row=0 then l else f:Nat))),.int .u64 (if row=0 then total else b:Nat),.bool true,.bool false]
  else #[.int .i64 row,.int .u64 at_,.int .u64 (IntKind.u64.wrap (at_*(if row=0 then l else f:Nat))),.int .u64 (IntKind.u64.wrap (((at_:Int)+1)*(if row=0 then l else f:Nat))),.bool false,.bool false]
def SpotX (w:World)(t:TreeV)(total:Nat)(L:List Nat)(row:Int)(at_:Nat)(c:Code)(pre:List (Q5 L))(W:World):Prop:=
  (∃ini k,pre=ini++[k]∧(∀j∈ini,(j.1:Int)<row)∧row≤(k.1:Nat)∧
    ((c= .ret∧0≤row∧at_<nth L k.1∧W.heap[w.heap.size+1+1+1+1]? =some (Obj.cells (ZI t.fn t.ln total row.toNat at_ (nth L k.1) (Zq L ini)) 96 (0,0))∧
        W.heap[w.heap.size+1+1+1+1+1]? =some (Obj.cells #[.int .i64 0] 30 (0,0)))∨
     (c= .exit 0∧(row<0∨nth L k.1≤at_)∧W.heap[w.heap.size+1+1+1+1]? =some (Obj.cells SpotV.zero.val.cells 96 (0,0))∧
        W.heap[w.heap.size+1+1+1+1+1]? =some (Obj.cells #[.int .i64 0] 30 (0,0)))))∧Below w.heap.size w W
theorem ZY {β:Type}(B b:Nat)(f:β→Array Value)(T:TypeId)(fr:Nat×Nat):OwnFrom B (fun(s:β) W=>W.heap[b]? =some (Obj.cells (f s) T fr)):=by
  intro s W W' row q J I;refine(J.block b (Ai q).1 (fun e=>?_)).trans q;obtain⟨-,o,D,G⟩:=I b e.symm;rw[q]at D
  cases D
  cases G
theorem SpotI.own {q:World}{L:List Nat}{row:Int}{B:Nat}(J:q.heap.size≤B):OwnFrom B (SpotI q L row):=
  fun s W W' r o I G=>⟨o.1,ZY B q.heap.size (fun D:List (Q5 L)=> #[.int .u64 (Zq L D)]) _ _ s W W' r o.2.1 I G,ownFrom_below (β:=List (Q5 L)) Nl J s W W' r o.2.2 I G⟩
theorem SpotX.own {w:World}{t:TreeV}{total:Nat}{L:List Nat}{row:Int}{at_:Nat}{c:Code}{B:Nat}(X:w.heap.size≤B):OwnFrom B (SpotX w t total L row at_ c):=by
  intro s W W' r V o q;obtain⟨⟨J,k,h1,O,U,Z⟩,hb⟩:=V;refine⟨⟨J,k,h1,O,U,?_⟩,ownFrom_below (β:=List (Q5 L)) Nl X s W W' r hb o q⟩;rcases Z with⟨e,I,Y,G,D⟩|⟨e,I,G,D⟩
  · exact .inl ⟨e,I,Y,ZY B _ (fun _:Unit=>_) _ _ () W W' r G o q,ZY B _ (fun _:Unit=>_) _ _ () W W' r D o q⟩
  · exact .inr ⟨e,I,ZY B _ (fun _:Unit=>_) _ _ () W W' r G o q,ZY B _ (fun _:Unit=>_) _ _ () W W' r D o q⟩
def RetP (B:Nat)(w:World)(t:TreeV)(total:Nat)(L:List Nat)(row:Int)(at_:Nat)(xs:List (Q5 L))(W W':World):Prop:=KeepsFrom B W W'∧SpotX w t total L row at_ .ret xs W'
theorem RetP.drew {B:Nat}{w:World}{t:TreeV}{total:Nat}{L:List Nat}{row:Int}{at_:Nat}{o:List (Q5 L)}{W W':World}(h:RetP B w t total L row at_ o W W'):RetP B w t total L row at_ o W W'.drew:=
  ⟨h.1.trans ((KeepsOthers.drew _).from _),h.2.1,h.2.2.drew⟩
theorem ZG {B:Nat}{w:World}{t:TreeV}{total:Nat}{L:List Nat}{row:Int}{at_:Nat}{q:List (Q5 L)}{x:Q5 L}{W:World}{a0 a1 a2 a3 a4 a5 b0 V X U I J Y:Value}{o:Obj}
    (h0: ∀k∈q,(k.1:Int)<row) (hr:0≤row) (Z:row≤(x.1:Nat)) (D:at_<nth L x.1) (hB:Below w.heap.size w W)
    (O:W.heap[w.heap.size+1+1+1+1]? =some (Obj.cells #[a0,a1,a2,a3,a4,a5] 96 (0,0))) (G:W.heap[w.heap.size+1+1+1+1+1]? =some (Obj.cells #[b0] 30 (0,0)))
    (hv:ZI t.fn t.ln total row.toNat at_ (nth L x.1) (Zq L q)= #[V,X,U,I,J,Y]):
    RetP B w t total L row at_ (q++[x]) W ((((((((W.setCell ⟨w.heap.size+1+1+1+1,0,none⟩ V).setCell ⟨w.heap.size+1+1+1+1,1,none⟩ X).setCell ⟨w.heap.size+1+1+1+1,2,none⟩ U).setCell ⟨w.heap.size+1+1+1+1,3,none⟩ I).setCell ⟨w.heap.size+1+1+1+1,4,none⟩ J).setCell ⟨w.heap.size+1+1+1+1,5,none⟩ Y).setCell ⟨w.heap.size+1+1+1+1+1,0,none⟩ (.int .i64 0)).alloc o):=by
  have s4:=(Ai O).1;have s5:=(Ai G).1;refine⟨((((((((KeepsOthers.setCell W _ _).trans (KeepsOthers.setCell _ _ _)).trans (KeepsOthers.setCell _ _ _)).trans (KeepsOthers.setCell _ _ _)).trans (KeepsOthers.setCell _ _ _)).trans (KeepsOthers.setCell _ _ _)).trans (KeepsOthers.setCell _ _ _)).trans (KeepsOthers.alloc _ _)).from _,
    ⟨q,x,rfl,h0,Z,.inl ⟨rfl,hr,D,?_,?_⟩⟩,((yy hB (by omega) _ _ _ _ _ _).setCell (p:=⟨w.heap.size+1+1+1+1+1,0,none⟩) (by show w.heap.size≤w.heap.size+1+1+1+1+1;omega) _).alloc (by simp;omega) _⟩
  · rw[Bh _ _ _ (by simp;omega),Below.heap_setCell _ _ _ _ (by simp),hv]
    exact yx O _ _ _ _ _ _
  · rw[Bh _ _ _ (by simp;omega)]
    exact block_setCell ((YF (by omega) _ _ _ _ _ _).trans G) _
theorem qgj {f p total l:Nat}{L:List Nat}(J:1≤l)(I:(total:Int)≤18446744073709551615)(h:RowsIs f p (lvs total l) L){row at_ b:Nat}(Y:row<L.length)(U:at_<nth L row)(O:1≤row→b=nth L (row - 1)):
    ZI f l total row at_ (nth L row) b=(Qv f l total L row at_).val.cells:=by
  have G:((at_:Int)==(nth L row:Int) - 1)=decide (at_=nth L row - 1):=by
    rw[Bool.eq_iff_iff,beq_iff_eq,decide_eq_true_iff];omega
  unfold ZI Qv;by_cases q:1≤row∧nth L row=1
  · rw[if_pos q,if_pos q,O q.1,G];rfl
  · obtain⟨b1,b2, -⟩:=ZH J h Y U q
    have V:(if row=0 then total else b)=(if row=0 then total else nth L (row - 1)):=by
      by_cases o:row=0
      · rw[if_pos o,if_pos o]
      · rw[if_neg o,if_neg o,O (by omega)]
    have aa:((if row=0 then total else nth L (row - 1):Nat):Int)≤18446744073709551615:=by
      by_cases o:row=0
      · rw[if_pos o];exact I
      · rw[if_neg o];exact jh J I h _ (by omega)
    have Z:IntKind.u64.wrap ((at_:Int)*((if row=0 then l else f:Nat):Int))=((at_*(if row=0 then l else f):Nat):Int):=by
      rw[wrap_u64,←Int.natCast_mul];omega
    rw[if_neg q,if_neg q,Z,V];by_cases D:at_=nth L row - 1
    · rw[if_pos (show(at_:Int)=(nth L row:Int) - 1 by omega),if_pos D];rfl
    · have ab:=b2 D
      have X:IntKind.u64.wrap (((at_:Int)+1)*((if row=0 then l else f:Nat):Int))=(((at_+1)*(if row=0 then l else f):Nat):Int):=by
        rw[wrap_u64,show((at_:Int)+1)=((at_+1:Nat):Int) by omega,←Int.natCast_mul];omega
      rw[if_neg (show ¬(at_:Int)=(nth L row:Int) - 1 by omega),if_neg D,X];rfl
theorem jZ {L:List Nat}{o:List (Q5 L)}{k:Q5 L}(h:(o++[k]).map (·.1)=List.range (o++[k]).length):k.1=o.length∧o.map (·.1)=List.range o.length:=by
  rw[List.map_append,List.length_append,List.length_singleton,List.range_succ]at h;have:=List.append_inj h (by simp)
  exact⟨by simpa using this.2,this.1⟩
theorem qcf {L:List Nat}{o:List (Q5 L)}(h:o.map (·.1)=List.range o.length){row:Int}(q: ∀j∈o,(j.1:Int)<row):(o.length:Int)≤row∨o=[]:=by
  by_cases D:o=[]
  · exact .inr D
  · refine .inl ?_
    have J:0<o.length:=List.length_pos_iff.2 D;have G:o.length - 1∈o.map (·.1):=by rw[h];exact List.mem_range.2 (by omega)
    obtain⟨j,I,e⟩:=List.mem_map.1 G;have:=q j I
    omega
theorem qg0 {L:List Nat}{o:List (Q5 L)}(h:o.map (·.1)=List.range o.length)(q:1≤o.length):Zq L o=nth L (o.length - 1):=by
  obtain⟨a,k,rfl⟩: ∃a k,o=a++[k]:=⟨_,_,(List.dropLast_concat_getLast (by intro e;subst e;simp at q)).symm⟩;rw[qaE,(jZ h).1];congr 1
  simp
theorem qeV {t:TreeV}{total:Nat}(U:(total:Int)≤18446744073709551615)(V:1≤t.ln)(h:t.err total=0){row:Int}{at_:Nat}{o:List (Q5 (t.rowsOf total))}{k:Q5 (t.rowsOf total)}
    (X:(o++[k]).map (·.1)=List.range (o++[k]).length) (I: ∀j∈o,(j.1:Int)<row) (Y:row≤(k.1:Nat)) (O:0≤row) (D:at_<nth (t.rowsOf total) k.1):
    t.there total row at_∧ZI t.fn t.ln total row.toNat at_ (nth (t.rowsOf total) k.1) (Zq _ o)=(t.spot total row.toNat at_).val.cells:=by
  obtain⟨G,J⟩:=jZ X;have q:row.toNat=k.1:=by
    rcases qcf J I with g|g
    · omega
    · subst g
      simp at G
      omega
  rw[q];refine⟨⟨O,by rw[q];exact k.2,by rw[q];exact D⟩,qgj V U (qM h) k.2 D (fun g=>?_)⟩;rw[qg0 J (by omega),G]
theorem qbS {t:TreeV}{total:Nat}{row:Int}{at_:Nat}{o:List (Q5 (t.rowsOf total))}{k:Q5 (t.rowsOf total)}
    (I:(o++[k]).map (·.1)=List.range (o++[k]).length) (q: ∀j∈o,(j.1:Int)<row) (U:row≤(k.1:Nat)) (Y:row<0∨nth (t.rowsOf total) k.1≤at_): ¬t.there total row at_:=by
  rintro⟨V,X,J⟩
  obtain⟨D,G⟩:=jZ I;have O:row.toNat=k.1:=by
    rcases qcf G q with g|g
    · omega
    · subst g
      simp at D
      omega
  rw[O]at J;omega
theorem qgi {t:TreeV}{total:Nat}{row:Int}{at_:Nat}{ys:List (Q5 (t.rowsOf total))}(D:ys.map (·.1)=List.range (t.rowsOf total).length)(o: ∀j∈ys,(j.1:Int)<row): ¬t.there total row at_:=by
  rintro⟨J,G, -⟩
  have q:row.toNat∈ys.map (·.1):=by rw[D];exact List.mem_range.2 G
  obtain⟨j,I,e⟩:=List.mem_map.1 q;have:=o j I
  omega
end Go.Proofs.YthjoojnlnlmljaaGreat
