/- The walk of shape.Spot. No condition. -/
import Derived.Test.YthjoojnlnlmljaaGreatF25
import Derived.BigQuiet
import Derived.Deep.QuietTactic
import Derived.WalkMore
import Derived.Scope
set_option linter.all false
set_option maxRecDepth 100000
set_option maxHeartbeats 8000000
namespace Go.Proofs.YthjoojnlnlmljaaGreat
open Go.ChangeShapes Go.WideShapes Go.ChangeAt Go.RowKit Go.Joins Go.Shelf Go.Maps
attribute [local go_sem] Oper.semAt_some
theorem qah {n:Nat}{P:Program}{c:Code}{Q:Exit→Act→World→Prop}{a:Act}{w:World}(h:c.wpIn Fence.wide n P (Exit.noGoto Q) a w):(Code.scope c).wpIn Fence.wide n P Q a w:=
  wpIn_wide.2 (wp_scope_straight (wpIn_wide.1 h))
theorem yp {W:World}{b:Nat}{a0 a1 a2 U S O:Value}{T:TypeId}{fr:Nat×Nat}(h:W.heap[b]? =some (Obj.cells #[a0,a1,a2,U,S,O] T fr))(G q o J I D:Value):
    ((((((W.setCell ⟨b,0,none⟩ G).setCell ⟨b,1,none⟩ q).setCell ⟨b,2,none⟩ o).setCell ⟨b,3,none⟩ J).setCell ⟨b,4,none⟩ I).setCell ⟨b,5,none⟩ D).heap[b]? =some (Obj.cells #[G,q,o,J,I,D] T fr):=
  block_setCell (block_setCell (block_setCell (block_setCell (block_setCell (block_setCell h G) q) o) J) I) D
theorem Yx {W:World}{b c:Nat}(h:c≠b)(G q o J I D:Value):
    ((((((W.setCell ⟨b,0,none⟩ G).setCell ⟨b,1,none⟩ q).setCell ⟨b,2,none⟩ o).setCell ⟨b,3,none⟩ J).setCell ⟨b,4,none⟩ I).setCell ⟨b,5,none⟩ D).heap[c]? =W.heap[c]? :=
  (Below.heap_setCell _ _ _ _ h).trans ((Below.heap_setCell _ _ _ _ h).trans ((Below.heap_setCell _ _ _ _ h).trans ((Below.heap_setCell _ _ _ _ h).trans ((Below.heap_setCell _ _ _ _ h).trans (Below.heap_setCell _ _ _ _ h)))))
theorem yq {B:Nat}{a W:World}(h:Below B a W){b:Nat}(o:B≤b)(I D q O J G:Value):
    Below B a ((((((W.setCell ⟨b,0,none⟩ I).setCell ⟨b,1,none⟩ D).setCell ⟨b,2,none⟩ q).setCell ⟨b,3,none⟩ O).setCell ⟨b,4,none⟩ J).setCell ⟨b,5,none⟩ G):=
  (((((h.setCell (p:=⟨b,0,none⟩) o I).setCell (p:=⟨b,1,none⟩) o D).setCell (p:=⟨b,2,none⟩) o q).setCell (p:=⟨b,3,none⟩) o O).setCell (p:=⟨b,4,none⟩) o J).setCell (p:=⟨b,5,none⟩) o G
theorem qk (w:World)(o:Obj){n:Nat}(q:n=w.heap.size):(w.alloc o).heap[n]? =some o:=by subst q;exact Wn w o
theorem YR {P:Program}{fn:Func}{tmps:Array Value}{W:World}{b c:Nat}{Y O J U S V e:Value}{T T':TypeId}{fr fr':Nat×Nat}
    (hr:fn.results= #[.cell 8 96,.cell 9 30]) (Z:tmps[8]?.getD undef= .pointer (some ⟨b,0,none⟩)) (h9:tmps[9]?.getD undef= .pointer (some ⟨c,0,none⟩))
    (o:W.heap[b]? =some (Obj.cells #[Y,O,J,U,S,V] T fr)) (hc:W.heap[c]? =some (Obj.cells #[e] T' fr')) (hP:P=Tryz.prog):
    (results fn tmps).run P W= .ok (.tuple #[.agg #[Y,O,J,U,S,V],e]) W:=by
  subst hP;have X:=qa o 0;have c1:=qa o 1;have c2:=qa o 2;have G:=qa o 3;have I:=qa o 4;have q:=qa o 5;have D:=qa hc 0;simp only[List.getElem?_toArray,List.getElem?_cons_zero,List.getElem?_cons_succ]at X c1 c2 G I q D;simp[results,hr,Z,h9,go_sem,X,c1,c2,G,I,q,D]
theorem qgu (t:TreeV)(G:0≤t.l∧t.l≤4294967295)(total:Nat)(I:(total:Int)≤18446744073709551615)(h:t.err total≠0)(row:Int)(at_:Nat)(w:World):
    Calls Tryz.prog 105 #[t.val,.int .u64 total,.int .i64 row,.int .u64 at_] w fun e w'=>e= .returned (.tuple #[SpotV.zero.val,.int .i64 (t.err total)])∧Below w.heap.size w w':=by
  have X:(t.err total != 0)=true:=by rw[bne_iff_ne];exact h
  clear h;unfold TreeV.val;go_enter Tryz.func105,Tryz.ntmps105
  go_wp2_with fail
  go_step3
  go_wp2_with fail
  refine(zS t G total I _).mono ?_;rintro e q ⟨rfl,o⟩;obtain⟨V,U⟩:=Y6 o;have D:=o.size;simp at D
  go_wp2
  rw[Exit.noGoto_ret];have J:Below w.heap.size w q:=by
    refine Below.trans ?_ (o.mono (by simp;omega));repeat(first|exact Below.refl _ _|(refine Below.alloc ?_ (by simp;omega) _)|(refine Below.alloc ?_ (by simp) _))
  have O:q.heap[w.heap.size+1+1+1+1]? =some (Obj.cells #[.int .i64 0,.int .u64 0,.int .u64 0,.int .u64 0,.bool false,.bool false] 96 (0,0)):=by
    rw[o.block _ (by simp)];rw[Bh _ _ _ (by simp)];exact qk _ _ (by simp)
  have S:q.heap[w.heap.size+1+1+1+1+1]? =some (Obj.cells #[.int .i64 0] 30 (0,0)):=by
    rw[o.block _ (by simp)];exact qk _ _ (by simp)
  refine Bp (YR rfl rfl rfl (b:=w.heap.size+1+1+1+1) (c:=w.heap.size+1+1+1+1+1) (T:=96) (fr:=(0,0)) (T':=30) (fr':=(0,0)) ?_ ?_ rfl) rfl ⟨rfl,?_⟩
  · rw[Below.heap_setCell _ _ _ _ (by simp)]
    exact yp O _ _ _ _ _ _
  · exact block_setCell ((Yx (by omega) _ _ _ _ _ _).trans S) _
  · exact(yq J (by omega) _ _ _ _ _ _).setCell (by simp;omega) _
end Go.Proofs.YthjoojnlnlmljaaGreat
namespace Go.Proofs.YthjoojnlnlmljaaGreat
open Go.ChangeShapes Go.WideShapes Go.ChangeAt Go.RowKit Go.Joins Go.Shelf Go.Maps
def Zf (L:List Nat)(pre:List (QW L)):Nat:=match pre.getLast? with
  | none=>0
  | some k=>nth L k.1
theorem qac (L:List Nat)(o:List (QW L))(x:QW L):Zf L (o++[x])=nth L x.1:=by simp[Zf]
def SpotI (w1:World)(L:List Nat)(row:Int)(pre:List (QW L))(W:World):Prop:=
  (∀k∈pre,(k.1:Int)<row)∧W.heap[w1.heap.size]? =some (Obj.cells #[.int .u64 (Zf L pre)] 44 (0,0))∧Below w1.heap.size w1 W
def Zu (f l total:Nat)(row at_ n b:Nat):Array Value:=
  if 1≤row∧n=1 then #[.int .i64 row,.int .u64 at_,.int .u64 0,.int .u64 b,.bool ((at_:Int)==(n:Int) - 1),.bool true]
  else if(at_:Int)=(n:Int) - 1 then #[.int .i64 row,.int .u64 at_,.int .u64 (IntKind.u64.wrap (at_*(if row=0 then l else f:Nat))),.int .u64 (if row=0 then total else b:Nat),.bool true,.bool false]
  else #[.int .i64 row,.int .u64 at_,.int .u64 (IntKind.u64.wrap (at_*(if row=0 then l else f:Nat))),.int .u64 (IntKind.u64.wrap (((at_:Int)+1)*(if row=0 then l else f:Nat))),.bool false,.bool false]
def SpotX (w:World)(t:TreeV)(total:Nat)(L:List Nat)(row:Int)(at_:Nat)(c:Code)(pre:List (QW L))(W:World):Prop:=
  (∃ini k,pre=ini++[k]∧(∀j∈ini,(j.1:Int)<row)∧row≤(k.1:Nat)∧
    ((c= .ret∧0≤row∧at_<nth L k.1∧W.heap[w.heap.size+1+1+1+1]? =some (Obj.cells (Zu t.fn t.ln total row.toNat at_ (nth L k.1) (Zf L ini)) 96 (0,0))∧
        W.heap[w.heap.size+1+1+1+1+1]? =some (Obj.cells #[.int .i64 0] 30 (0,0)))∨
     (c= .exit 0∧(row<0∨nth L k.1≤at_)∧W.heap[w.heap.size+1+1+1+1]? =some (Obj.cells SpotV.zero.val.cells 96 (0,0))∧
        W.heap[w.heap.size+1+1+1+1+1]? =some (Obj.cells #[.int .i64 0] 30 (0,0)))))∧Below w.heap.size w W
theorem ZH {β:Type}(B b:Nat)(f:β→Array Value)(T:TypeId)(fr:Nat×Nat):OwnFrom B (fun(s:β) W=>W.heap[b]? =some (Obj.cells (f s) T fr)):=by
  intro s W W' row q G J;refine(G.block b (Ai q).1 (fun e=>?_)).trans q;obtain⟨-,o,D,I⟩:=J b e.symm;rw[q]at D
  cases D
  cases I
theorem SpotI.own {q:World}{L:List Nat}{row:Int}{B:Nat}(J:q.heap.size≤B):OwnFrom B (SpotI q L row):=
  fun s W W' r o G D=>⟨o.1,ZH B q.heap.size (fun I:List (QW L)=> #[.int .u64 (Zf L I)]) _ _ s W W' r o.2.1 G D,ownFrom_below (β:=List (QW L)) Nl J s W W' r o.2.2 G D⟩
theorem SpotX.own {w:World}{t:TreeV}{total:Nat}{L:List Nat}{row:Int}{at_:Nat}{c:Code}{B:Nat}(hB:w.heap.size≤B):OwnFrom B (SpotX w t total L row at_ c):=by
  intro s W W' r Y o q;obtain⟨⟨J,k,V,O,X,Z⟩,U⟩:=Y;refine⟨⟨J,k,V,O,X,?_⟩,ownFrom_below (β:=List (QW L)) Nl hB s W W' r U o q⟩;rcases Z with⟨e,G,S,I,D⟩|⟨e,G,I,D⟩
  · exact .inl ⟨e,G,S,ZH B _ (fun _:Unit=>_) _ _ () W W' r I o q,ZH B _ (fun _:Unit=>_) _ _ () W W' r D o q⟩
  · exact .inr ⟨e,G,ZH B _ (fun _:Unit=>_) _ _ () W W' r I o q,ZH B _ (fun _:Unit=>_) _ _ () W W' r D o q⟩
def RetP (B:Nat)(w:World)(t:TreeV)(total:Nat)(L:List Nat)(row:Int)(at_:Nat)(xs:List (QW L))(W W':World):Prop:=KeepsFrom B W W'∧SpotX w t total L row at_ .ret xs W'
theorem RetP.drew {B:Nat}{w:World}{t:TreeV}{total:Nat}{L:List Nat}{row:Int}{at_:Nat}{o:List (QW L)}{W W':World}(h:RetP B w t total L row at_ o W W'):RetP B w t total L row at_ o W W'.drew:=
  ⟨h.1.trans ((KeepsOthers.drew _).from _),h.2.1,h.2.2.drew⟩
theorem Zs {B:Nat}{w:World}{t:TreeV}{total:Nat}{L:List Nat}{row:Int}{at_:Nat}{q:List (QW L)}{x:QW L}{W:World}{a0 a1 a2 a3 a4 a5 b0 X J I S O U:Value}{o:Obj}
    (h0: ∀k∈q,(k.1:Int)<row) (hr:0≤row) (Z:row≤(x.1:Nat)) (V:at_<nth L x.1) (hB:Below w.heap.size w W)
    (D:W.heap[w.heap.size+1+1+1+1]? =some (Obj.cells #[a0,a1,a2,a3,a4,a5] 96 (0,0))) (G:W.heap[w.heap.size+1+1+1+1+1]? =some (Obj.cells #[b0] 30 (0,0)))
    (Y:Zu t.fn t.ln total row.toNat at_ (nth L x.1) (Zf L q)= #[X,J,I,S,O,U]):
    RetP B w t total L row at_ (q++[x]) W ((((((((W.setCell ⟨w.heap.size+1+1+1+1,0,none⟩ X).setCell ⟨w.heap.size+1+1+1+1,1,none⟩ J).setCell ⟨w.heap.size+1+1+1+1,2,none⟩ I).setCell ⟨w.heap.size+1+1+1+1,3,none⟩ S).setCell ⟨w.heap.size+1+1+1+1,4,none⟩ O).setCell ⟨w.heap.size+1+1+1+1,5,none⟩ U).setCell ⟨w.heap.size+1+1+1+1+1,0,none⟩ (.int .i64 0)).alloc o):=by
  have s4:=(Ai D).1;have s5:=(Ai G).1;refine⟨((((((((KeepsOthers.setCell W _ _).trans (KeepsOthers.setCell _ _ _)).trans (KeepsOthers.setCell _ _ _)).trans (KeepsOthers.setCell _ _ _)).trans (KeepsOthers.setCell _ _ _)).trans (KeepsOthers.setCell _ _ _)).trans (KeepsOthers.setCell _ _ _)).trans (KeepsOthers.alloc _ _)).from _,
    ⟨q,x,rfl,h0,Z,.inl ⟨rfl,hr,V,?_,?_⟩⟩,((yq hB (by omega) _ _ _ _ _ _).setCell (p:=⟨w.heap.size+1+1+1+1+1,0,none⟩) (by show w.heap.size≤w.heap.size+1+1+1+1+1;omega) _).alloc (by simp;omega) _⟩
  · rw[Bh _ _ _ (by simp;omega),Below.heap_setCell _ _ _ _ (by simp),Y]
    exact yp D _ _ _ _ _ _
  · rw[Bh _ _ _ (by simp;omega)]
    exact block_setCell ((Yx (by omega) _ _ _ _ _ _).trans G) _
theorem qfM {f p total l:Nat}{L:List Nat}(I:1≤l)(J:(total:Int)≤18446744073709551615)(h:RowsIs f p (lvs total l) L){row at_ b:Nat}(X:row<L.length)(S:at_<nth L row)(G:1≤row→b=nth L (row - 1)):
    Zu f l total row at_ (nth L row) b=(Qs f l total L row at_).val.cells:=by
  have O:((at_:Int)==(nth L row:Int) - 1)=decide (at_=nth L row - 1):=by
    rw[Bool.eq_iff_iff,beq_iff_eq,decide_eq_true_iff];omega
  unfold Zu Qs;by_cases q:1≤row∧nth L row=1
  · rw[if_pos q,if_pos q,G q.1,O];rfl
  · obtain⟨b1,b2, -⟩:=Zt I h X S q
    have Y:(if row=0 then total else b)=(if row=0 then total else nth L (row - 1)):=by
      by_cases o:row=0
      · rw[if_pos o,if_pos o]
      · rw[if_neg o,if_neg o,G (by omega)]
    have Z:((if row=0 then total else nth L (row - 1):Nat):Int)≤18446744073709551615:=by
      by_cases o:row=0
      · rw[if_pos o];exact J
      · rw[if_neg o];exact ZY I J h _ (by omega)
    have U:IntKind.u64.wrap ((at_:Int)*((if row=0 then l else f:Nat):Int))=((at_*(if row=0 then l else f):Nat):Int):=by
      rw[wrap_u64,←Int.natCast_mul];omega
    rw[if_neg q,if_neg q,U,Y];by_cases D:at_=nth L row - 1
    · rw[if_pos (show(at_:Int)=(nth L row:Int) - 1 by omega),if_pos D];rfl
    · have aa:=b2 D
      have V:IntKind.u64.wrap (((at_:Int)+1)*((if row=0 then l else f:Nat):Int))=(((at_+1)*(if row=0 then l else f):Nat):Int):=by
        rw[wrap_u64,show((at_:Int)+1)=((at_+1:Nat):Int) by omega,←Int.natCast_mul];omega
      rw[if_neg (show ¬(at_:Int)=(nth L row:Int) - 1 by omega),if_neg D,V];rfl
theorem jF {L:List Nat}{o:List (QW L)}{k:QW L}(h:(o++[k]).map (·.1)=List.range (o++[k]).length):k.1=o.length∧o.map (·.1)=List.range o.length:=by
  rw[List.map_append,List.length_append,List.length_singleton,List.range_succ]at h;have:=List.append_inj h (by simp)
  exact⟨by simpa using this.2,this.1⟩
theorem qbM {L:List Nat}{o:List (QW L)}(h:o.map (·.1)=List.range o.length){row:Int}(D: ∀j∈o,(j.1:Int)<row):(o.length:Int)≤row∨o=[]:=by
  by_cases q:o=[]
  · exact .inr q
  · refine .inl ?_
    have J:0<o.length:=List.length_pos_iff.2 q;have I:o.length - 1∈o.map (·.1):=by rw[h];exact List.mem_range.2 (by omega)
    obtain⟨j,G,e⟩:=List.mem_map.1 I;have:=D j G
    omega
theorem qgp {L:List Nat}{o:List (QW L)}(h:o.map (·.1)=List.range o.length)(q:1≤o.length):Zf L o=nth L (o.length - 1):=by
  obtain⟨a,k,rfl⟩: ∃a k,o=a++[k]:=⟨_,_,(List.dropLast_concat_getLast (by intro e;subst e;simp at q)).symm⟩;rw[qac,(jF h).1];congr 1
  simp
theorem qej {t:TreeV}{total:Nat}(U:(total:Int)≤18446744073709551615)(S:1≤t.ln)(h:t.err total=0){row:Int}{at_:Nat}{o:List (QW (t.rowsOf total))}{k:QW (t.rowsOf total)}
    (O:(o++[k]).map (·.1)=List.range (o++[k]).length) (D: ∀j∈o,(j.1:Int)<row) (X:row≤(k.1:Nat)) (V:0≤row) (G:at_<nth (t.rowsOf total) k.1):
    t.there total row at_∧Zu t.fn t.ln total row.toNat at_ (nth (t.rowsOf total) k.1) (Zf _ o)=(t.spot total row.toNat at_).val.cells:=by
  obtain⟨J,I⟩:=jF O;have q:row.toNat=k.1:=by
    rcases qbM I D with g|g
    · omega
    · subst g
      simp at J
      omega
  rw[q];refine⟨⟨V,by rw[q];exact k.2,by rw[q];exact G⟩,qfM S U (qM h) k.2 G (fun g=>?_)⟩;rw[qgp I (by omega),J]
theorem qbq {t:TreeV}{total:Nat}{row:Int}{at_:Nat}{o:List (QW (t.rowsOf total))}{k:QW (t.rowsOf total)}
    (I:(o++[k]).map (·.1)=List.range (o++[k]).length) (q: ∀j∈o,(j.1:Int)<row) (X:row≤(k.1:Nat)) (S:row<0∨nth (t.rowsOf total) k.1≤at_): ¬t.there total row at_:=by
  rintro⟨V,U,O⟩
  obtain⟨J,G⟩:=jF I;have D:row.toNat=k.1:=by
    rcases qbM G q with g|g
    · omega
    · subst g
      simp at J
      omega
  rw[D]at O;omega
theorem qfL {t:TreeV}{total:Nat}{row:Int}{at_:Nat}{ys:List (QW (t.rowsOf total))}(D:ys.map (·.1)=List.range (t.rowsOf total).length)(o: ∀j∈ys,(j.1:Int)<row): ¬t.there total row at_:=by
  rintro⟨J,q, -⟩
  have I:row.toNat∈ys.map (·.1):=by rw[D];exact List.mem_range.2 q
  obtain⟨j,G,e⟩:=List.mem_map.1 I;have:=o j G
  omega
end Go.Proofs.YthjoojnlnlmljaaGreat
