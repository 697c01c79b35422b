/- The walk of shape.Spot. No condition. -/
import Derived.Test.YthjoojnlnlmljaaGreatP00
import Derived.Test.YthjoojnlnlmljaaGreatB07
import Derived.BigQuiet
import Derived.Deep.QuietTactic
import Derived.WalkMore
import Derived.Scope
set_option linter.all false
set_option maxRecDepth 100000
set_option maxHeartbeats 8000000
namespace Go.Proofs.YthjoojnlnlmljaaGreat
open Go.ChangeShapes Go.WideShapes Go.ChangeAt Go.RowKit Go.Joins Go.Shelf Go.Maps
attribute [local go_sem] Oper.semAt_some
theorem qbb {n:Nat}{P:Program}{c:Code}{Q:Exit→Act→World→Prop}{a:Act}{w:World}(h:c.wpIn Fence.wide n P (Exit.noGoto Q) a w):(Code.scope c).wpIn Fence.wide n P Q a w:=
  wpIn_wide.2 (wp_scope_straight (wpIn_wide.1 h))
theorem yA {W:World}{b:Nat}{a0 a1 a2 J S O:Value}{T:TypeId}{fr:Nat×Nat}(h:W.heap[b]? =some (Obj.cells #[a0,a1,a2,J,S,O] T fr))(o q r D G I:Value):
    ((((((W.setCell ⟨b,0,none⟩ o).setCell ⟨b,1,none⟩ q).setCell ⟨b,2,none⟩ r).setCell ⟨b,3,none⟩ D).setCell ⟨b,4,none⟩ G).setCell ⟨b,5,none⟩ I).heap[b]? =some (Obj.cells #[o,q,r,D,G,I] T fr):=
  block_setCell (block_setCell (block_setCell (block_setCell (block_setCell (block_setCell h o) q) r) D) G) I
theorem Y5 {W:World}{b c:Nat}(h:c≠b)(o q r D G I:Value):
    ((((((W.setCell ⟨b,0,none⟩ o).setCell ⟨b,1,none⟩ q).setCell ⟨b,2,none⟩ r).setCell ⟨b,3,none⟩ D).setCell ⟨b,4,none⟩ G).setCell ⟨b,5,none⟩ I).heap[c]? =W.heap[c]? :=
  (Below.heap_setCell _ _ _ _ h).trans ((Below.heap_setCell _ _ _ _ h).trans ((Below.heap_setCell _ _ _ _ h).trans ((Below.heap_setCell _ _ _ _ h).trans ((Below.heap_setCell _ _ _ _ h).trans (Below.heap_setCell _ _ _ _ h)))))
theorem yC {B:Nat}{a W:World}(h:Below B a W){b:Nat}(o:B≤b)(q r D G I J:Value):
    Below B a ((((((W.setCell ⟨b,0,none⟩ q).setCell ⟨b,1,none⟩ r).setCell ⟨b,2,none⟩ D).setCell ⟨b,3,none⟩ G).setCell ⟨b,4,none⟩ I).setCell ⟨b,5,none⟩ J):=
  (((((h.setCell (p:=⟨b,0,none⟩) o q).setCell (p:=⟨b,1,none⟩) o r).setCell (p:=⟨b,2,none⟩) o D).setCell (p:=⟨b,3,none⟩) o G).setCell (p:=⟨b,4,none⟩) o I).setCell (p:=⟨b,5,none⟩) o J
theorem qz (w:World)(o:Obj){n:Nat}(q:n=w.heap.size):(w.alloc o).heap[n]? =some o:=by subst q;exact Wn w o
theorem zG {P:Program}{fn:Func}{tmps:Array Value}{W:World}{b c:Nat}{S U q J O X e:Value}{T T':TypeId}{fr fr':Nat×Nat}
    (Y:fn.results= #[.cell 8 96,.cell 9 30]) (Z:tmps[8]?.getD undef= .pointer (some ⟨b,0,none⟩)) (h9:tmps[9]?.getD undef= .pointer (some ⟨c,0,none⟩))
    (o:W.heap[b]? =some (Obj.cells #[S,U,q,J,O,X] T fr)) (hc:W.heap[c]? =some (Obj.cells #[e] T' fr')) (hP:P=Tryz.prog):
    (results fn tmps).run P W= .ok (.tuple #[.agg #[S,U,q,J,O,X],e]) W:=by
  subst hP;have r:=qd o 0;have c1:=qd o 1;have c2:=qd o 2;have D:=qd o 3;have I:=qd o 4;have V:=qd o 5;have G:=qd hc 0;simp only[List.getElem?_toArray,List.getElem?_cons_zero,List.getElem?_cons_succ]at r c1 c2 D I V G;simp[results,Y,Z,h9,go_sem,r,c1,c2,D,I,V,G]
theorem qh0 (t:TreeV)(D:0≤t.l∧t.l≤4294967295)(total:Nat)(J:(total:Int)≤18446744073709551615)(h:t.err total≠0)(row:Int)(at_:Nat)(w:World):
    Calls Tryz.prog 105 #[t.val,.int .u64 total,.int .i64 row,.int .u64 at_] w fun e w'=>e= .returned (.tuple #[SpotV.zero.val,.int .i64 (t.err total)])∧Below w.heap.size w w':=by
  have O:(t.err total != 0)=true:=by rw[bne_iff_ne];exact h
  clear h;unfold TreeV.val;go_enter Tryz.func105,Tryz.ntmps105
  go_wp2_with fail
  go_step3
  go_wp2_with fail
  refine(qby t D total J _).mono ?_;rintro e w1 ⟨rfl,o⟩;obtain⟨S,U⟩:=yS o;have q:=o.size;simp at q
  go_wp2
  rw[Exit.noGoto_ret];have G:Below w.heap.size w w1:=by
    refine Below.trans ?_ (o.mono (by simp;omega));repeat(first|exact Below.refl _ _|(refine Below.alloc ?_ (by simp;omega) _)|(refine Below.alloc ?_ (by simp) _))
  have I:w1.heap[w.heap.size+1+1+1+1]? =some (Obj.cells Kh 96 (0,0)):=by
    rw[o.block _ (by simp)];rw[Bh _ _ _ (by simp)];exact qz _ _ (by simp)
  have r:w1.heap[w.heap.size+1+1+1+1+1]? =some (Obj.cells #[.int .i64 0] 30 (0,0)):=by
    rw[o.block _ (by simp)];exact qz _ _ (by simp)
  refine Bp (zG rfl rfl rfl (b:=w.heap.size+1+1+1+1) (c:=w.heap.size+1+1+1+1+1) (T:=96) (fr:=(0,0)) (T':=30) (fr':=(0,0)) ?_ ?_ rfl) rfl ⟨rfl,?_⟩
  · rw[Below.heap_setCell _ _ _ _ (by simp)]
    exact yA I _ _ _ _ _ _
  · exact block_setCell ((Y5 (by omega) _ _ _ _ _ _).trans r) _
  · exact(yC G (by omega) _ _ _ _ _ _).setCell (by simp;omega) _
end Go.Proofs.YthjoojnlnlmljaaGreat
namespace Go.Proofs.YthjoojnlnlmljaaGreat
open Go.ChangeShapes Go.WideShapes Go.ChangeAt Go.RowKit Go.Joins Go.Shelf Go.Maps
def ZR (L:List Nat)(pre:List (yD L)):Nat:=match pre.getLast? with
  | none=>0
  | some k=>nth L k.1
theorem qa7 (L:List Nat)(o:List (yD L))(x:yD L):ZR L (o++[x])=nth L x.1:=by simp[ZR]
def SpotI (w1:World)(L:List Nat)(row:Int)(pre:List (yD L))(W:World):Prop:=
  (∀k∈pre,(k.1:Int)<row)∧W.heap[w1.heap.size]? =some (Obj.cells #[.int .u64 (ZR L pre)] 44 (0,0))∧Below w1.heap.size w1 W
def jd (f l total:Nat)(row at_ n b:Nat):Array Value:=
  if 1≤row∧n=1 then #[.int .i64 row,.int .u64 at_,.int .u64 0,.int .u64 b,.bool ((at_:Int)==(n:Int) - 1),.bool true]
  else if(at_:Int)=(n:Int) - 1 then #[.int .i64 row,.int .u64 at_,.int .u64 (IntKind.u64.wrap (at_*(if row=0 then l else f:Nat))),.int .u64 (if row=0 then total else b:Nat),.bool true,.bool false]
  else #[.int .i64 row,.int .u64 at_,.int .u64 (IntKind.u64.wrap (at_*(if row=0 then l else f:Nat))),.int .u64 (IntKind.u64.wrap (((at_:Int)+1)*(if row=0 then l else f:Nat))),.bool false,.bool false]
def SpotX (w:World)(t:TreeV)(total:Nat)(L:List Nat)(row:Int)(at_:Nat)(c:Code)(pre:List (yD L))(W:World):Prop:=
  (∃ini k,pre=ini++[k]∧(∀j∈ini,(j.1:Int)<row)∧row≤(k.1:Nat)∧
    ((c= .ret∧0≤row∧at_<nth L k.1∧W.heap[w.heap.size+1+1+1+1]? =some (Obj.cells (jd t.fn t.ln total row.toNat at_ (nth L k.1) (ZR L ini)) 96 (0,0))∧
        W.heap[w.heap.size+1+1+1+1+1]? =some (Obj.cells #[.int .i64 0] 30 (0,0)))∨
     (c= .exit 0∧(row<0∨nth L k.1≤at_)∧W.heap[w.heap.size+1+1+1+1]? =some (Obj.cells SpotV.zero.val.cells 96 (0,0))∧
        W.heap[w.heap.size+1+1+1+1+1]? =some (Obj.cells #[.int .i64 0] 30 (0,0)))))∧Below w.heap.size w W
theorem jr {β:Type}(B b:Nat)(f:β→Array Value)(T:TypeId)(fr:Nat×Nat):OwnFrom B (fun(s:β) W=>W.heap[b]? =some (Obj.cells (f s) T fr)):=by
  intro s W W' row q G D;refine(G.block b (Ai q).1 (fun e=>?_)).trans q;obtain⟨-,o,r,I⟩:=D b e.symm;rw[q]at r
  cases r
  cases I
theorem SpotI.own {w1:World}{L:List Nat}{row:Int}{B:Nat}(I:w1.heap.size≤B):OwnFrom B (SpotI w1 L row):=
  fun s W W' r o D q=>⟨o.1,jr B w1.heap.size (fun G:List (yD L)=> #[.int .u64 (ZR L G)]) _ _ s W W' r o.2.1 D q,ownFrom_below (β:=List (yD L)) Nl I s W W' r o.2.2 D q⟩
theorem SpotX.own {w:World}{t:TreeV}{total:Nat}{L:List Nat}{row:Int}{at_:Nat}{c:Code}{B:Nat}(U:w.heap.size≤B):OwnFrom B (SpotX w t total L row at_ c):=by
  intro s W W' r Z q o;obtain⟨⟨J,k,O,S,X,Y⟩,V⟩:=Z;refine⟨⟨J,k,O,S,X,?_⟩,ownFrom_below (β:=List (yD L)) Nl U s W W' r V q o⟩;rcases Y with⟨e,G,r1,D,I⟩|⟨e,G,D,I⟩
  · exact .inl ⟨e,G,r1,jr B _ (fun _:Unit=>_) _ _ () W W' r D q o,jr B _ (fun _:Unit=>_) _ _ () W W' r I q o⟩
  · exact .inr ⟨e,G,jr B _ (fun _:Unit=>_) _ _ () W W' r D q o,jr B _ (fun _:Unit=>_) _ _ () W W' r I q o⟩
def RetP (B:Nat)(w:World)(t:TreeV)(total:Nat)(L:List Nat)(row:Int)(at_:Nat)(xs:List (yD L))(W W':World):Prop:=KeepsFrom B W W'∧SpotX w t total L row at_ .ret xs W'
theorem RetP.drew {B:Nat}{w:World}{t:TreeV}{total:Nat}{L:List Nat}{row:Int}{at_:Nat}{xs:List (yD L)}{W W':World}(h:RetP B w t total L row at_ xs W W'):RetP B w t total L row at_ xs W W'.drew:=
  ⟨h.1.trans ((KeepsOthers.drew _).from _),h.2.1,h.2.2.drew⟩
theorem jb {B:Nat}{w:World}{t:TreeV}{total:Nat}{L:List Nat}{row:Int}{at_:Nat}{q:List (yD L)}{x:yD L}{W:World}{a0 a1 a2 Y a4 a5 Z S U r G I V:Value}{o:Obj}
    (h0: ∀k∈q,(k.1:Int)<row) (X:0≤row) (hk:row≤(x.1:Nat)) (O:at_<nth L x.1) (hB:Below w.heap.size w W)
    (D:W.heap[w.heap.size+1+1+1+1]? =some (Obj.cells #[a0,a1,a2,Y,a4,a5] 96 (0,0))) (J:W.heap[w.heap.size+1+1+1+1+1]? =some (Obj.cells #[Z] 30 (0,0)))
    (hv:jd t.fn t.ln total row.toNat at_ (nth L x.1) (ZR L q)= #[S,U,r,G,I,V]):
    RetP B w t total L row at_ (q++[x]) W ((((((((W.setCell ⟨w.heap.size+1+1+1+1,0,none⟩ S).setCell ⟨w.heap.size+1+1+1+1,1,none⟩ U).setCell ⟨w.heap.size+1+1+1+1,2,none⟩ r).setCell ⟨w.heap.size+1+1+1+1,3,none⟩ G).setCell ⟨w.heap.size+1+1+1+1,4,none⟩ I).setCell ⟨w.heap.size+1+1+1+1,5,none⟩ V).setCell ⟨w.heap.size+1+1+1+1+1,0,none⟩ (.int .i64 0)).alloc o):=by
  have s4:=(Ai D).1;have s5:=(Ai J).1;refine⟨((((((((KeepsOthers.setCell W _ _).trans (KeepsOthers.setCell _ _ _)).trans (KeepsOthers.setCell _ _ _)).trans (KeepsOthers.setCell _ _ _)).trans (KeepsOthers.setCell _ _ _)).trans (KeepsOthers.setCell _ _ _)).trans (KeepsOthers.setCell _ _ _)).trans (KeepsOthers.alloc _ _)).from _,
    ⟨q,x,rfl,h0,hk,.inl ⟨rfl,X,O,?_,?_⟩⟩,((yC hB (by omega) _ _ _ _ _ _).setCell (p:=⟨w.heap.size+1+1+1+1+1,0,none⟩) (by show w.heap.size≤w.heap.size+1+1+1+1+1;omega) _).alloc (by simp;omega) _⟩
  · rw[Bh _ _ _ (by simp;omega),Below.heap_setCell _ _ _ _ (by simp),hv]
    exact yA D _ _ _ _ _ _
  · rw[Bh _ _ _ (by simp;omega)]
    exact block_setCell ((Y5 (by omega) _ _ _ _ _ _).trans J) _
theorem qhe {f p total l:Nat}{L:List Nat}(D:1≤l)(J:(total:Int)≤18446744073709551615)(h:RowsIs f p (lvs total l) L){row at_ b:Nat}(O:row<L.length)(S:at_<nth L row)(I:1≤row→b=nth L (row - 1)):
    jd f l total row at_ (nth L row) b=(QV f l total L row at_).val.cells:=by
  have G:((at_:Int)==(nth L row:Int) - 1)=decide (at_=nth L row - 1):=by
    rw[Bool.eq_iff_iff,beq_iff_eq,decide_eq_true_iff];omega
  unfold jd QV;by_cases q:1≤row∧nth L row=1
  · rw[if_pos q,if_pos q,I q.1,G];rfl
  · obtain⟨b1,b2, -⟩:=jc D h O S q
    have U:(if row=0 then total else b)=(if row=0 then total else nth L (row - 1)):=by
      by_cases o:row=0
      · rw[if_pos o,if_pos o]
      · rw[if_neg o,if_neg o,I (by omega)]
    have X:((if row=0 then total else nth L (row - 1):Nat):Int)≤18446744073709551615:=by
      by_cases o:row=0
      · rw[if_pos o];exact J
      · rw[if_neg o];exact Y9 D J h _ (by omega)
    have w1:IntKind.u64.wrap ((at_:Int)*((if row=0 then l else f:Nat):Int))=((at_*(if row=0 then l else f):Nat):Int):=by
      rw[wrap_u64,←Int.natCast_mul];omega
    rw[if_neg q,if_neg q,w1,U];by_cases r:at_=nth L row - 1
    · rw[if_pos (show(at_:Int)=(nth L row:Int) - 1 by omega),if_pos r];rfl
    · have Y:=b2 r
      have V:IntKind.u64.wrap (((at_:Int)+1)*((if row=0 then l else f:Nat):Int))=(((at_+1)*(if row=0 then l else f):Nat):Int):=by
        rw[wrap_u64,show((at_:Int)+1)=((at_+1:Nat):Int) by omega,←Int.natCast_mul];omega
      rw[if_neg (show ¬(at_:Int)=(nth L row:Int) - 1 by omega),if_neg r,V];rfl
theorem Jv {L:List Nat}{o:List (yD L)}{k:yD L}(h:(o++[k]).map (·.1)=List.range (o++[k]).length):k.1=o.length∧o.map (·.1)=List.range o.length:=by
  rw[List.map_append,List.length_append,List.length_singleton,List.range_succ]at h;have:=List.append_inj h (by simp)
  exact⟨by simpa using this.2,this.1⟩
theorem qcP {L:List Nat}{o:List (yD L)}(h:o.map (·.1)=List.range o.length){row:Int}(r: ∀j∈o,(j.1:Int)<row):(o.length:Int)≤row∨o=[]:=by
  by_cases q:o=[]
  · exact .inr q
  · refine .inl ?_
    have I:0<o.length:=List.length_pos_iff.2 q;have G:o.length - 1∈o.map (·.1):=by rw[h];exact List.mem_range.2 (by omega)
    obtain⟨j,D,e⟩:=List.mem_map.1 G;have:=r j D
    omega
theorem qhP {L:List Nat}{o:List (yD L)}(h:o.map (·.1)=List.range o.length)(q:1≤o.length):ZR L o=nth L (o.length - 1):=by
  obtain⟨a,k,rfl⟩: ∃a k,o=a++[k]:=⟨_,_,(List.dropLast_concat_getLast (by intro e;subst e;simp at q)).symm⟩;rw[qa7,(Jv h).1];congr 1
  simp
theorem qfD {t:TreeV}{total:Nat}(S:(total:Int)≤18446744073709551615)(J:1≤t.ln)(h:t.err total=0){row:Int}{at_:Nat}{o:List (yD (t.rowsOf total))}{k:yD (t.rowsOf total)}
    (U:(o++[k]).map (·.1)=List.range (o++[k]).length) (I: ∀j∈o,(j.1:Int)<row) (V:row≤(k.1:Nat)) (O:0≤row) (r:at_<nth (t.rowsOf total) k.1):
    t.there total row at_∧jd t.fn t.ln total row.toNat at_ (nth (t.rowsOf total) k.1) (ZR _ o)=(t.spot total row.toNat at_).val.cells:=by
  obtain⟨G,D⟩:=Jv U;have q:row.toNat=k.1:=by
    rcases qcP D I with g|g
    · omega
    · subst g
      simp at G
      omega
  rw[q];refine⟨⟨O,by rw[q];exact k.2,by rw[q];exact r⟩,qhe J S (qF h) k.2 r (fun g=>?_)⟩;rw[qhP D (by omega),G]
theorem qcs {t:TreeV}{total:Nat}{row:Int}{at_:Nat}{o:List (yD (t.rowsOf total))}{k:yD (t.rowsOf total)}
    (D:(o++[k]).map (·.1)=List.range (o++[k]).length) (q: ∀j∈o,(j.1:Int)<row) (V:row≤(k.1:Nat)) (O:row<0∨nth (t.rowsOf total) k.1≤at_): ¬t.there total row at_:=by
  rintro⟨S,U,I⟩
  obtain⟨J,G⟩:=Jv D;have r:row.toNat=k.1:=by
    rcases qcP G q with g|g
    · omega
    · subst g
      simp at J
      omega
  rw[r]at I;omega
theorem qhd {t:TreeV}{total:Nat}{row:Int}{at_:Nat}{o:List (yD (t.rowsOf total))}(G:o.map (·.1)=List.range (t.rowsOf total).length)(q: ∀j∈o,(j.1:Int)<row): ¬t.there total row at_:=by
  rintro⟨J,I, -⟩
  have D:row.toNat∈o.map (·.1):=by rw[G];exact List.mem_range.2 I
  obtain⟨j,r,e⟩:=List.mem_map.1 D;have:=q j r
  omega
end Go.Proofs.YthjoojnlnlmljaaGreat
