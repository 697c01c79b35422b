/- Lemmas. No condition. -/
import Derived.Test.YtahenngmaoellaaGreatO07
set_option linter.all false
set_option maxRecDepth 100000
set_option maxHeartbeats 0
namespace Go.Proofs.YtahenngmaoellaaGreat
open Go.ChangeShapes Go.WideShapes Go.ChangeAt Go.RowKit Go.Joins Go.Shelf Go.Maps
variable{n b c:Nat}{P:Program}{W:World}{J:Value}{T:TypeId}{fr:Nat×Nat}
attribute [local go_sem] Oper.semAt_some
theorem qbn {c:Code}{Q:Exit->Act->World->Prop}{a:Act}{w:World}(h:c.wpIn Fence.wide n P (Exit.noGoto Q) a w):(Code.scope c).wpIn Fence.wide n P Q a w:=
  wpIn_wide.2 (wp_scope_straight (wpIn_wide.1 h))
theorem ym {a0 a1 a2 S O:Value}(h:W.heap[b]? =some (Obj.cells #[a0,a1,a2,J,S,O] T fr))(q o I D r G:Value):
    ((((((W.setCell ⟨b,0,none⟩ q).setCell ⟨b,1,none⟩ o).setCell ⟨b,2,none⟩ I).setCell ⟨b,3,none⟩ D).setCell ⟨b,4,none⟩ r).setCell ⟨b,5,none⟩ G).heap[b]? =some (Obj.cells #[q,o,I,D,r,G] T fr):=
  block_setCell (block_setCell (block_setCell (block_setCell (block_setCell (block_setCell h q) o) I) D) r) G
theorem zg (h:c≠b)(q o I D r G:Value):
    ((((((W.setCell ⟨b,0,none⟩ q).setCell ⟨b,1,none⟩ o).setCell ⟨b,2,none⟩ I).setCell ⟨b,3,none⟩ D).setCell ⟨b,4,none⟩ r).setCell ⟨b,5,none⟩ G).heap[c]? =W.heap[c]? :=
  (Below.heap_setCell _ _ _ _ h).trans ((Below.heap_setCell _ _ _ _ h).trans ((Below.heap_setCell _ _ _ _ h).trans ((Below.heap_setCell _ _ _ _ h).trans ((Below.heap_setCell _ _ _ _ h).trans (Below.heap_setCell _ _ _ _ h)))))
theorem yn {B:Nat}{a:World}(h:Below B a W)(o:B<=b)(r q I G D J:Value):
    Below B a ((((((W.setCell ⟨b,0,none⟩ r).setCell ⟨b,1,none⟩ q).setCell ⟨b,2,none⟩ I).setCell ⟨b,3,none⟩ G).setCell ⟨b,4,none⟩ D).setCell ⟨b,5,none⟩ J):=
  (((((h.setCell (p:=⟨b,0,none⟩) o r).setCell (p:=⟨b,1,none⟩) o q).setCell (p:=⟨b,2,none⟩) o I).setCell (p:=⟨b,3,none⟩) o G).setCell (p:=⟨b,4,none⟩) o D).setCell (p:=⟨b,5,none⟩) o J
theorem qB (w:World)(o:Obj)(q:n=w.heap.size):(w.alloc o).heap[n]? =some o:=by subst q;exact Wn w o
theorem zR {fn:Func}{tmps:Array Value}{r V G D U e:Value}{T':TypeId}{fr':Nat×Nat}
    (Z:fn.results= #[.cell 8 96,.cell 9 30]) (h8:tmps[8]?.getD undef= .pointer (some ⟨b,0,none⟩)) (h9:tmps[9]?.getD undef= .pointer (some ⟨c,0,none⟩))
    (o:W.heap[b]? =some (Obj.cells #[r,J,V,G,D,U] T fr)) (hc:W.heap[c]? =some (Obj.cells #[e] T' fr')) (Y:P=Tryz.prog):
    (results fn tmps).run P W= .ok (.tuple #[.agg #[r,J,V,G,D,U],e]) W:=by
  subst Y;have S:=qd o 0;have c1:=qd o 1;have c2:=qd o 2;have X:=qd o 3;have I:=qd o 4;have q:=qd o 5;have O:=qd hc 0;simp only[List.getElem?_toArray,List.getElem?_cons_zero,List.getElem?_cons_succ]at S c1 c2 X I q O;simp[results,Z,h8,h9,go_sem,S,c1,c2,X,I,q,O]
theorem qio (t:TreeV)(D:0<=t.l/\t.l<=4294967295)(total:Nat)(I:(total:Int)<=18446744073709551615)(h:t.err total≠0)(row:Int)(at_:Nat)(w:World):
    Calls Tryz.prog 92 #[t.val,.int .u64 total,.int .i64 row,.int .u64 at_] w fun e w'=>e= .returned (.tuple #[SpotV.zero.val,.int .i64 (t.err total)])/\Below w.heap.size w w':=by
  have O:(t.err total != 0)=true:=by rw[bne_iff_ne];exact h
  clear h;unfold TreeV.val;go_enter Tryz.func92,Tryz.ntmps92
  go_wp2_with fail
  go_step3
  go_wp2_with fail
  refine(qbM t D total I _).mono ?_;rintro e w1 ⟨rfl,o⟩;obtain⟨U,S⟩:=Q5 o;have q:=o.size;simp at q
  go_wp2
  rw[Exit.noGoto_ret];have r:Below w.heap.size w w1:=by
    refine Below.trans ?_ (o.mono (by simp;omega));repeat(first|exact Below.refl _ _|(refine Below.alloc ?_ (by simp;omega) _)|(refine Below.alloc ?_ (by simp) _))
  have G:w1.heap[w.heap.size+1+1+1+1]? =some (Obj.cells Kh 96 (0,0)):=by
    rw[o.block _ (by simp)];rw[Bh _ _ _ (by simp)];exact qB _ _ (by simp)
  have J:w1.heap[w.heap.size+1+1+1+1+1]? =some (Obj.cells #[.int .i64 0] 30 (0,0)):=by
    rw[o.block _ (by simp)];exact qB _ _ (by simp)
  refine Bp (zR rfl rfl rfl (b:=w.heap.size+1+1+1+1) (c:=w.heap.size+1+1+1+1+1) (T:=96) (fr:=(0,0)) (T':=30) (fr':=(0,0)) ?_ ?_ rfl) rfl ⟨rfl,?_⟩
  · rw[Below.heap_setCell _ _ _ _ (by simp)]
    exact ym G _ _ _ _ _ _
  · exact block_setCell ((zg (by omega) _ _ _ _ _ _).trans J) _
  · exact(yn r (by omega) _ _ _ _ _ _).setCell (by simp;omega) _
end Go.Proofs.YtahenngmaoellaaGreat
namespace Go.Proofs.YtahenngmaoellaaGreat
open Go.ChangeShapes Go.WideShapes Go.ChangeAt Go.RowKit Go.Joins Go.Shelf Go.Maps
variable{L:List Nat}{row:Int}{B total at_:Nat}{t:TreeV}{W:World}
def Z5 (L:List Nat)(pre:List (yI L)):Nat:=match pre.getLast? with
  | none=>0
  | some k=>nth L k.1
theorem qbj (L:List Nat)(o:List (yI L))(x:yI L):Z5 L (o++[x])=nth L x.1:=by simp[Z5]
def SpotI (w1:World)(L:List Nat)(row:Int)(pre:List (yI L))(W:World):Prop:=
  (∀k∈pre,(k.1:Int)<row)/\W.heap[w1.heap.size]? =some (Obj.cells #[.int .u64 (Z5 L pre)] 44 (0,0))/\Below w1.heap.size w1 W
def jr (f l total:Nat)(row at_ n b:Nat):Array Value:=
  if 1<=row/\n=1 then #[.int .i64 row,.int .u64 at_,.int .u64 0,.int .u64 b,.bool ((at_:Int)==(n:Int) - 1),.bool true]
  else if(at_:Int)=(n:Int) - 1 then #[.int .i64 row,.int .u64 at_,.int .u64 (IntKind.u64.wrap (at_*(if row=0 then l else f:Nat))),.int .u64 (if row=0 then total else b:Nat),.bool true,.bool false]
  else #[.int .i64 row,.int .u64 at_,.int .u64 (IntKind.u64.wrap (at_*(if row=0 then l else f:Nat))),.int .u64 (IntKind.u64.wrap (((at_:Int)+1)*(if row=0 then l else f:Nat))),.bool false,.bool false]
def SpotX (w:World)(t:TreeV)(total:Nat)(L:List Nat)(row:Int)(at_:Nat)(c:Code)(pre:List (yI L))(W:World):Prop:=
  (∃ini k,pre=ini++[k]/\(∀j∈ini,(j.1:Int)<row)/\row<=(k.1:Nat)/\
    ((c= .ret/\0<=row/\at_<nth L k.1/\W.heap[w.heap.size+1+1+1+1]? =some (Obj.cells (jr t.fn t.ln total row.toNat at_ (nth L k.1) (Z5 L ini)) 96 (0,0))/\
        W.heap[w.heap.size+1+1+1+1+1]? =some (Obj.cells #[.int .i64 0] 30 (0,0)))\/
     (c= .exit 0/\(row<0\/nth L k.1<=at_)/\W.heap[w.heap.size+1+1+1+1]? =some (Obj.cells SpotV.zero.val.cells 96 (0,0))/\
        W.heap[w.heap.size+1+1+1+1+1]? =some (Obj.cells #[.int .i64 0] 30 (0,0)))))/\Below w.heap.size w W
theorem jF {β:Type}(B b:Nat)(f:β->Array Value)(T:TypeId)(fr:Nat×Nat):OwnFrom B (fun(s:β) W=>W.heap[b]? =some (Obj.cells (f s) T fr)):=by
  intro s W W' row q I D;refine(I.block b (Ai q).1 (fun e=>?_)).trans q;obtain⟨-,o,r,G⟩:=D b e.symm;rw[q]at r
  cases r
  cases G
theorem SpotI.own {w1:World}(I:w1.heap.size<=B):OwnFrom B (SpotI w1 L row):=
  fun s W W' r o q G=>⟨o.1,jF B w1.heap.size (fun D:List (yI L)=> #[.int .u64 (Z5 L D)]) _ _ s W W' r o.2.1 q G,ownFrom_below (β:=List (yI L)) Nl I s W W' r o.2.2 q G⟩
theorem SpotX.own {w:World}{c:Code}(O:w.heap.size<=B):OwnFrom B (SpotX w t total L row at_ c):=by
  intro s W W' r X q o;obtain⟨⟨J,k,Z,V,S,h4⟩,Y⟩:=X;refine⟨⟨J,k,Z,V,S,?_⟩,ownFrom_below (β:=List (yI L)) Nl O s W W' r Y q o⟩;rcases h4 with⟨e,D,U,G,I⟩|⟨e,D,G,I⟩
  · exact .inl ⟨e,D,U,jF B _ (fun _:Unit=>_) _ _ () W W' r G q o,jF B _ (fun _:Unit=>_) _ _ () W W' r I q o⟩
  · exact .inr ⟨e,D,jF B _ (fun _:Unit=>_) _ _ () W W' r G q o,jF B _ (fun _:Unit=>_) _ _ () W W' r I q o⟩
def RetP (B:Nat)(w:World)(t:TreeV)(total:Nat)(L:List Nat)(row:Int)(at_:Nat)(xs:List (yI L))(W W':World):Prop:=KeepsFrom B W W'/\SpotX w t total L row at_ .ret xs W'
theorem RetP.drew {w:World}{xs:List (yI L)}{W':World}(h:RetP B w t total L row at_ xs W W'):RetP B w t total L row at_ xs W W'.drew:=
  ⟨h.1.trans ((KeepsOthers.drew _).from _),h.2.1,h.2.2.drew⟩
theorem jp {w:World}{q:List (yI L)}{x:yI L}{a0 a1 a2 a3 a4 a5 b0 D O U J G S:Value}{o:Obj}
    (h0: ∀k∈q,(k.1:Int)<row) (Y:0<=row) (Z:row<=(x.1:Nat)) (r:at_<nth L x.1) (X:Below w.heap.size w W)
    (I:W.heap[w.heap.size+1+1+1+1]? =some (Obj.cells #[a0,a1,a2,a3,a4,a5] 96 (0,0))) (V:W.heap[w.heap.size+1+1+1+1+1]? =some (Obj.cells #[b0] 30 (0,0)))
    (hv:jr t.fn t.ln total row.toNat at_ (nth L x.1) (Z5 L q)= #[D,O,U,J,G,S]):
    RetP B w t total L row at_ (q++[x]) W ((((((((W.setCell ⟨w.heap.size+1+1+1+1,0,none⟩ D).setCell ⟨w.heap.size+1+1+1+1,1,none⟩ O).setCell ⟨w.heap.size+1+1+1+1,2,none⟩ U).setCell ⟨w.heap.size+1+1+1+1,3,none⟩ J).setCell ⟨w.heap.size+1+1+1+1,4,none⟩ G).setCell ⟨w.heap.size+1+1+1+1,5,none⟩ S).setCell ⟨w.heap.size+1+1+1+1+1,0,none⟩ (.int .i64 0)).alloc o):=by
  have s4:=(Ai I).1;have s5:=(Ai V).1;refine⟨((((((((KeepsOthers.setCell W _ _).trans (KeepsOthers.setCell _ _ _)).trans (KeepsOthers.setCell _ _ _)).trans (KeepsOthers.setCell _ _ _)).trans (KeepsOthers.setCell _ _ _)).trans (KeepsOthers.setCell _ _ _)).trans (KeepsOthers.setCell _ _ _)).trans (KeepsOthers.alloc _ _)).from _,
    ⟨q,x,rfl,h0,Z,.inl ⟨rfl,Y,r,?_,?_⟩⟩,((yn X (by omega) _ _ _ _ _ _).setCell (p:=⟨w.heap.size+1+1+1+1+1,0,none⟩) (by show w.heap.size<=w.heap.size+1+1+1+1+1;omega) _).alloc (by simp;omega) _⟩
  · rw[Bh _ _ _ (by simp;omega),Below.heap_setCell _ _ _ _ (by simp),hv]
    exact ym I _ _ _ _ _ _
  · rw[Bh _ _ _ (by simp;omega)]
    exact block_setCell ((zg (by omega) _ _ _ _ _ _).trans V) _
theorem qhz {f p l:Nat}(D:1<=l)(J:(total:Int)<=18446744073709551615)(h:RowsIs f p (lvs total l) L){row b:Nat}(O:row<L.length)(V:at_<nth L row)(G:1<=row->b=nth L (row - 1)):
    jr f l total row at_ (nth L row) b=(QZ f l total L row at_).val.cells:=by
  have I:((at_:Int)==(nth L row:Int) - 1)=decide (at_=nth L row - 1):=by
    rw[Bool.eq_iff_iff,beq_iff_eq,decide_eq_true_iff];omega
  unfold jr QZ;by_cases q:1<=row/\nth L row=1
  · rw[if_pos q,if_pos q,G q.1,I];rfl
  · obtain⟨b1,b2, -⟩:=jq D h O V q
    have S:(if row=0 then total else b)=(if row=0 then total else nth L (row - 1)):=by
      by_cases o:row=0
      · rw[if_pos o,if_pos o]
      · rw[if_neg o,if_neg o,G (by omega)]
    have Y:((if row=0 then total else nth L (row - 1):Nat):Int)<=18446744073709551615:=by
      by_cases o:row=0
      · rw[if_pos o];exact J
      · rw[if_neg o];exact zk D J h _ (by omega)
    have w1:IntKind.u64.wrap ((at_:Int)*((if row=0 then l else f:Nat):Int))=((at_*(if row=0 then l else f):Nat):Int):=by
      rw[wrap_u64,<-Int.natCast_mul];omega
    rw[if_neg q,if_neg q,w1,S];by_cases r:at_=nth L row - 1
    · rw[if_pos (show(at_:Int)=(nth L row:Int) - 1 by omega),if_pos r];rfl
    · have X:=b2 r
      have U:IntKind.u64.wrap (((at_:Int)+1)*((if row=0 then l else f:Nat):Int))=(((at_+1)*(if row=0 then l else f):Nat):Int):=by
        rw[wrap_u64,show((at_:Int)+1)=((at_+1:Nat):Int) by omega,<-Int.natCast_mul];omega
      rw[if_neg (show ¬(at_:Int)=(nth L row:Int) - 1 by omega),if_neg r,U];rfl
theorem JH {o:List (yI L)}{k:yI L}(h:(o++[k]).map (·.1)=List.range (o++[k]).length):k.1=o.length/\o.map (·.1)=List.range o.length:=by
  rw[List.map_append,List.length_append,List.length_singleton,List.range_succ]at h;have:=List.append_inj h (by simp)
  exact⟨by simpa using this.2,this.1⟩
theorem qc8 {o:List (yI L)}(h:o.map (·.1)=List.range o.length)(q: ∀j∈o,(j.1:Int)<row):(o.length:Int)<=row\/o=[]:=by
  by_cases r:o=[]
  · exact .inr r
  · refine .inl ?_
    have I:0<o.length:=List.length_pos_iff.2 r;have D:o.length - 1∈o.map (·.1):=by rw[h];exact List.mem_range.2 (by omega)
    obtain⟨j,G,e⟩:=List.mem_map.1 D;have:=q j G
    omega
theorem qie {o:List (yI L)}(h:o.map (·.1)=List.range o.length)(q:1<=o.length):Z5 L o=nth L (o.length - 1):=by
  obtain⟨a,k,rfl⟩: ∃a k,o=a++[k]:=⟨_,_,(List.dropLast_concat_getLast (by intro e;subst e;simp at q)).symm⟩;rw[qbj,(JH h).1];congr 1
  simp
theorem qfY (U:(total:Int)<=18446744073709551615)(O:1<=t.ln)(h:t.err total=0){o:List (yI (t.rowsOf total))}{k:yI (t.rowsOf total)}
    (J:(o++[k]).map (·.1)=List.range (o++[k]).length) (G: ∀j∈o,(j.1:Int)<row) (V:row<=(k.1:Nat)) (S:0<=row) (I:at_<nth (t.rowsOf total) k.1):
    t.there total row at_/\jr t.fn t.ln total row.toNat at_ (nth (t.rowsOf total) k.1) (Z5 _ o)=(t.spot total row.toNat at_).val.cells:=by
  obtain⟨r,D⟩:=JH J;have q:row.toNat=k.1:=by
    rcases qc8 D G with g|g
    · omega
    · subst g
      simp at r
      omega
  rw[q];refine⟨⟨S,by rw[q];exact k.2,by rw[q];exact I⟩,qhz O U (qG h) k.2 I (fun g=>?_)⟩;rw[qie D (by omega),r]
theorem qcJ {o:List (yI (t.rowsOf total))}{k:yI (t.rowsOf total)}
    (I:(o++[k]).map (·.1)=List.range (o++[k]).length) (q: ∀j∈o,(j.1:Int)<row) (U:row<=(k.1:Nat)) (S:row<0\/nth (t.rowsOf total) k.1<=at_): ¬t.there total row at_:=by
  rintro⟨V,O,D⟩
  obtain⟨r,J⟩:=JH I;have G:row.toNat=k.1:=by
    rcases qc8 J q with g|g
    · omega
    · subst g
      simp at r
      omega
  rw[G]at D;omega
theorem qhy {o:List (yI (t.rowsOf total))}(I:o.map (·.1)=List.range (t.rowsOf total).length)(q: ∀j∈o,(j.1:Int)<row): ¬t.there total row at_:=by
  rintro⟨J,r, -⟩
  have D:row.toNat∈o.map (·.1):=by rw[I];exact List.mem_range.2 r
  obtain⟨j,G,e⟩:=List.mem_map.1 D;have:=q j G
  omega
