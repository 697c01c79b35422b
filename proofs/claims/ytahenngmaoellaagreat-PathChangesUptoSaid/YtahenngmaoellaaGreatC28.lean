/- The walk of shape.Spot. No condition. -/
import Derived.Test.YtahenngmaoellaaGreatC27
import Derived.BigQuiet
import Derived.Deep.QuietTactic
import Derived.WalkMore
import Derived.Scope
set_option linter.all false
set_option maxRecDepth 100000
set_option maxHeartbeats 8000000
namespace Go.Proofs.YtahenngmaoellaaGreat
open Go.ChangeShapes Go.WideShapes Go.ChangeAt Go.RowKit Go.Joins Go.Shelf Go.Maps
attribute [local go_sem] Oper.semAt_some
theorem qaw {n:Nat}{P:Program}{c:Code}{Q:Exit→Act→World→Prop}{a:Act}{w:World}(h:c.wpIn Fence.wide n P (Exit.noGoto Q) a w):(Code.scope c).wpIn Fence.wide n P Q a w:=
  wpIn_wide.2 (wp_scope_straight (wpIn_wide.1 h))
theorem yi {W:World}{b:Nat}{a0 a1 a2 a3 a4 a5:Value}{T:TypeId}{fr:Nat×Nat}(h:W.heap[b]? =some (Obj.cells #[a0,a1,a2,a3,a4,a5] T fr))(v0 v1 v2 v3 v4 v5:Value):
    ((((((W.setCell ⟨b,0,none⟩ v0).setCell ⟨b,1,none⟩ v1).setCell ⟨b,2,none⟩ v2).setCell ⟨b,3,none⟩ v3).setCell ⟨b,4,none⟩ v4).setCell ⟨b,5,none⟩ v5).heap[b]? =some (Obj.cells #[v0,v1,v2,v3,v4,v5] T fr):=
  block_setCell (block_setCell (block_setCell (block_setCell (block_setCell (block_setCell h v0) v1) v2) v3) v4) v5
theorem YF {W:World}{b c:Nat}(h:c≠b)(v0 v1 v2 v3 v4 v5:Value):
    ((((((W.setCell ⟨b,0,none⟩ v0).setCell ⟨b,1,none⟩ v1).setCell ⟨b,2,none⟩ v2).setCell ⟨b,3,none⟩ v3).setCell ⟨b,4,none⟩ v4).setCell ⟨b,5,none⟩ v5).heap[c]? =W.heap[c]? :=
  (Below.heap_setCell _ _ _ _ h).trans ((Below.heap_setCell _ _ _ _ h).trans ((Below.heap_setCell _ _ _ _ h).trans ((Below.heap_setCell _ _ _ _ h).trans ((Below.heap_setCell _ _ _ _ h).trans (Below.heap_setCell _ _ _ _ h)))))
theorem yj {B:Nat}{a W:World}(h:Below B a W){b:Nat}(hb:B≤b)(v0 v1 v2 v3 v4 v5:Value):
    Below B a ((((((W.setCell ⟨b,0,none⟩ v0).setCell ⟨b,1,none⟩ v1).setCell ⟨b,2,none⟩ v2).setCell ⟨b,3,none⟩ v3).setCell ⟨b,4,none⟩ v4).setCell ⟨b,5,none⟩ v5):=
  (((((h.setCell (p:=⟨b,0,none⟩) hb v0).setCell (p:=⟨b,1,none⟩) hb v1).setCell (p:=⟨b,2,none⟩) hb v2).setCell (p:=⟨b,3,none⟩) hb v3).setCell (p:=⟨b,4,none⟩) hb v4).setCell (p:=⟨b,5,none⟩) hb v5
theorem qD (w:World)(o:Obj){n:Nat}(hn:n=w.heap.size):(w.alloc o).heap[n]? =some o:=by subst hn;exact Wn w o
theorem zc {P:Program}{fn:Func}{tmps:Array Value}{W:World}{b c:Nat}{v0 v1 v2 v3 v4 v5 e:Value}{T T':TypeId}{fr fr':Nat×Nat}
    (hr:fn.results= #[.cell 8 96,.cell 9 30]) (h8:tmps[8]?.getD undef= .pointer (some ⟨b,0,none⟩)) (h9:tmps[9]?.getD undef= .pointer (some ⟨c,0,none⟩))
    (hb:W.heap[b]? =some (Obj.cells #[v0,v1,v2,v3,v4,v5] T fr)) (hc:W.heap[c]? =some (Obj.cells #[e] T' fr')) (hP:P=Tryz.prog):
    (results fn tmps).run P W= .ok (.tuple #[.agg #[v0,v1,v2,v3,v4,v5],e]) W:=by
  subst hP;have c0:=qa hb 0;have c1:=qa hb 1;have c2:=qa hb 2;have c3:=qa hb 3;have c4:=qa hb 4;have c5:=qa hb 5;have d0:=qa hc 0;simp only[List.getElem?_toArray,List.getElem?_cons_zero,List.getElem?_cons_succ]at c0 c1 c2 c3 c4 c5 d0;simp[results,hr,h8,h9,go_sem,c0,c1,c2,c3,c4,c5,d0]
theorem qgD (t:TreeV)(hl:0≤t.l∧t.l≤4294967295)(total:Nat)(ht:(total:Int)≤18446744073709551615)(h:t.err total≠0)(row:Int)(at_:Nat)(w:World):
    Calls Tryz.prog 92 #[t.val,.int .u64 total,.int .i64 row,.int .u64 at_] w fun e w'=>e= .returned (.tuple #[SpotV.zero.val,.int .i64 (t.err total)])∧Below w.heap.size w w':=by
  have e1:(t.err total != 0)=true:=by rw[bne_iff_ne];exact h
  clear h;unfold TreeV.val;go_enter Tryz.func92,Tryz.ntmps92
  go_wp2_with fail
  go_step3
  go_wp2_with fail
  refine(qaQ t hl total ht _).mono ?_;rintro e w1 ⟨rfl,hb1⟩;obtain⟨hc,hf⟩:=yK hb1;have hs1:=hb1.size;simp at hs1
  go_wp2
  rw[Exit.noGoto_ret];have hB:Below w.heap.size w w1:=by
    refine Below.trans ?_ (hb1.mono (by simp;omega));repeat(first|exact Below.refl _ _|(refine Below.alloc ?_ (by simp;omega) _)|(refine Below.alloc ?_ (by simp) _))
  have b4:w1.heap[w.heap.size+1+1+1+1]? =some (Obj.cells #[.int .i64 0,.int .u64 0,.int .u64 0,.int .u64 0,.bool false,.bool false] 96 (0,0)):=by
    rw[hb1.block _ (by simp)];rw[Bh _ _ _ (by simp)];exact qD _ _ (by simp)
  have b5:w1.heap[w.heap.size+1+1+1+1+1]? =some (Obj.cells #[.int .i64 0] 30 (0,0)):=by
    rw[hb1.block _ (by simp)];exact qD _ _ (by simp)
  refine Bp (zc rfl rfl rfl (b:=w.heap.size+1+1+1+1) (c:=w.heap.size+1+1+1+1+1) (T:=96) (fr:=(0,0)) (T':=30) (fr':=(0,0)) ?_ ?_ rfl) rfl ⟨rfl,?_⟩
  · rw[Below.heap_setCell _ _ _ _ (by simp)]
    exact yi b4 _ _ _ _ _ _
  · exact block_setCell ((YF (by omega) _ _ _ _ _ _).trans b5) _
  · exact(yj hB (by omega) _ _ _ _ _ _).setCell (by simp;omega) _
end Go.Proofs.YtahenngmaoellaaGreat
namespace Go.Proofs.YtahenngmaoellaaGreat
open Go.ChangeShapes Go.WideShapes Go.ChangeAt Go.RowKit Go.Joins Go.Shelf Go.Maps
def Zp (L:List Nat)(pre:List (yk L)):Nat:=match pre.getLast? with
  | none=>0
  | some k=>nth L k.1
theorem qat (L:List Nat)(pre:List (yk L))(x:yk L):Zp L (pre++[x])=nth L x.1:=by simp[Zp]
def SpotI (w1:World)(L:List Nat)(row:Int)(pre:List (yk L))(W:World):Prop:=
  (∀k∈pre,(k.1:Int)<row)∧W.heap[w1.heap.size]? =some (Obj.cells #[.int .u64 (Zp L pre)] 44 (0,0))∧Below w1.heap.size w1 W
def ZJ (f l total:Nat)(row at_ n b:Nat):Array Value:=
  if 1≤row∧n=1 then #[.int .i64 row,.int .u64 at_,.int .u64 0,.int .u64 b,.bool ((at_:Int)==(n:Int) - 1),.bool true]
  else if(at_:Int)=(n:Int) - 1 then #[.int .i64 row,.int .u64 at_,.int .u64 (IntKind.u64.wrap (at_*(if row=0 then l else f:Nat))),.int .u64 (if row=0 then total else b:Nat),.bool true,.bool false]
  else #[.int .i64 row,.int .u64 at_,.int .u64 (IntKind.u64.wrap (at_*(if row=0 then l else f:Nat))),.int .u64 (IntKind.u64.wrap (((at_:Int)+1)*(if row=0 then l else f:Nat))),.bool false,.bool false]
def SpotX (w:World)(t:TreeV)(total:Nat)(L:List Nat)(row:Int)(at_:Nat)(c:Code)(pre:List (yk L))(W:World):Prop:=
  (∃ini k,pre=ini++[k]∧(∀j∈ini,(j.1:Int)<row)∧row≤(k.1:Nat)∧
    ((c= .ret∧0≤row∧at_<nth L k.1∧W.heap[w.heap.size+1+1+1+1]? =some (Obj.cells (ZJ t.fn t.ln total row.toNat at_ (nth L k.1) (Zp L ini)) 96 (0,0))∧
        W.heap[w.heap.size+1+1+1+1+1]? =some (Obj.cells #[.int .i64 0] 30 (0,0)))∨
     (c= .exit 0∧(row<0∨nth L k.1≤at_)∧W.heap[w.heap.size+1+1+1+1]? =some (Obj.cells SpotV.zero.val.cells 96 (0,0))∧
        W.heap[w.heap.size+1+1+1+1+1]? =some (Obj.cells #[.int .i64 0] 30 (0,0)))))∧Below w.heap.size w W
theorem ZW {β:Type}(B b:Nat)(f:β→Array Value)(T:TypeId)(fr:Nat×Nat):OwnFrom B (fun(s:β) W=>W.heap[b]? =some (Obj.cells (f s) T fr)):=by
  intro s W W' row hs hg hr;refine(hg.block b (Ai hs).1 (fun e=>?_)).trans hs;obtain⟨-,o,ho,hc⟩:=hr b e.symm;rw[hs]at ho
  cases ho
  cases hc
theorem SpotI.own {w1:World}{L:List Nat}{row:Int}{B:Nat}(hB:w1.heap.size≤B):OwnFrom B (SpotI w1 L row):=
  fun s W W' r hs hg hr=>⟨hs.1,ZW B w1.heap.size (fun pre:List (yk L)=> #[.int .u64 (Zp L pre)]) _ _ s W W' r hs.2.1 hg hr,ownFrom_below (β:=List (yk L)) Nl hB s W W' r hs.2.2 hg hr⟩
theorem SpotX.own {w:World}{t:TreeV}{total:Nat}{L:List Nat}{row:Int}{at_:Nat}{c:Code}{B:Nat}(hB:w.heap.size≤B):OwnFrom B (SpotX w t total L row at_ c):=by
  intro s W W' r hs hg hr;obtain⟨⟨ini,k,h1,h2,h3,h4⟩,hb⟩:=hs;refine⟨⟨ini,k,h1,h2,h3,?_⟩,ownFrom_below (β:=List (yk L)) Nl hB s W W' r hb hg hr⟩;rcases h4 with⟨e,r0,r1,r2,r3⟩|⟨e,r0,r2,r3⟩
  · exact .inl ⟨e,r0,r1,ZW B _ (fun _:Unit=>_) _ _ () W W' r r2 hg hr,ZW B _ (fun _:Unit=>_) _ _ () W W' r r3 hg hr⟩
  · exact .inr ⟨e,r0,ZW B _ (fun _:Unit=>_) _ _ () W W' r r2 hg hr,ZW B _ (fun _:Unit=>_) _ _ () W W' r r3 hg hr⟩
def RetP (B:Nat)(w:World)(t:TreeV)(total:Nat)(L:List Nat)(row:Int)(at_:Nat)(xs:List (yk L))(W W':World):Prop:=KeepsFrom B W W'∧SpotX w t total L row at_ .ret xs W'
theorem RetP.drew {B:Nat}{w:World}{t:TreeV}{total:Nat}{L:List Nat}{row:Int}{at_:Nat}{xs:List (yk L)}{W W':World}(h:RetP B w t total L row at_ xs W W'):RetP B w t total L row at_ xs W W'.drew:=
  ⟨h.1.trans ((KeepsOthers.drew _).from _),h.2.1,h.2.2.drew⟩
theorem ZH {B:Nat}{w:World}{t:TreeV}{total:Nat}{L:List Nat}{row:Int}{at_:Nat}{pre:List (yk L)}{x:yk L}{W:World}{a0 a1 a2 a3 a4 a5 b0 v0 v1 v2 v3 v4 v5:Value}{o:Obj}
    (h0: ∀k∈pre,(k.1:Int)<row) (hr:0≤row) (hk:row≤(x.1:Nat)) (hat:at_<nth L x.1) (hB:Below w.heap.size w W)
    (d4:W.heap[w.heap.size+1+1+1+1]? =some (Obj.cells #[a0,a1,a2,a3,a4,a5] 96 (0,0))) (d5:W.heap[w.heap.size+1+1+1+1+1]? =some (Obj.cells #[b0] 30 (0,0)))
    (hv:ZJ t.fn t.ln total row.toNat at_ (nth L x.1) (Zp L pre)= #[v0,v1,v2,v3,v4,v5]):
    RetP B w t total L row at_ (pre++[x]) W ((((((((W.setCell ⟨w.heap.size+1+1+1+1,0,none⟩ v0).setCell ⟨w.heap.size+1+1+1+1,1,none⟩ v1).setCell ⟨w.heap.size+1+1+1+1,2,none⟩ v2).setCell ⟨w.heap.size+1+1+1+1,3,none⟩ v3).setCell ⟨w.heap.size+1+1+1+1,4,none⟩ v4).setCell ⟨w.heap.size+1+1+1+1,5,none⟩ v5).setCell ⟨w.heap.size+1+1+1+1+1,0,none⟩ (.int .i64 0)).alloc o):=by
  have s4:=(Ai d4).1;have s5:=(Ai d5).1;refine⟨((((((((KeepsOthers.setCell W _ _).trans (KeepsOthers.setCell _ _ _)).trans (KeepsOthers.setCell _ _ _)).trans (KeepsOthers.setCell _ _ _)).trans (KeepsOthers.setCell _ _ _)).trans (KeepsOthers.setCell _ _ _)).trans (KeepsOthers.setCell _ _ _)).trans (KeepsOthers.alloc _ _)).from _,
    ⟨pre,x,rfl,h0,hk,.inl ⟨rfl,hr,hat,?_,?_⟩⟩,((yj hB (by omega) _ _ _ _ _ _).setCell (p:=⟨w.heap.size+1+1+1+1+1,0,none⟩) (by show w.heap.size≤w.heap.size+1+1+1+1+1;omega) _).alloc (by simp;omega) _⟩
  · rw[Bh _ _ _ (by simp;omega),Below.heap_setCell _ _ _ _ (by simp),hv]
    exact yi d4 _ _ _ _ _ _
  · rw[Bh _ _ _ (by simp;omega)]
    exact block_setCell ((YF (by omega) _ _ _ _ _ _).trans d5) _
theorem qfQ {f p total l:Nat}{L:List Nat}(hl:1≤l)(ht:(total:Int)≤18446744073709551615)(h:RowsIs f p (lvs total l) L){row at_ b:Nat}(hr:row<L.length)(ha:at_<nth L row)(hb:1≤row→b=nth L (row - 1)):
    ZJ f l total row at_ (nth L row) b=(QM f l total L row at_).val.cells:=by
  have hla:((at_:Int)==(nth L row:Int) - 1)=decide (at_=nth L row - 1):=by
    rw[Bool.eq_iff_iff,beq_iff_eq,decide_eq_true_iff];omega
  unfold ZJ QM;by_cases hn:1≤row∧nth L row=1
  · rw[if_pos hn,if_pos hn,hb hn.1,hla];rfl
  · obtain⟨b1,b2, -⟩:=ZI hl h hr ha hn
    have e3:(if row=0 then total else b)=(if row=0 then total else nth L (row - 1)):=by
      by_cases h0:row=0
      · rw[if_pos h0,if_pos h0]
      · rw[if_neg h0,if_neg h0,hb (by omega)]
    have hto:((if row=0 then total else nth L (row - 1):Nat):Int)≤18446744073709551615:=by
      by_cases h0:row=0
      · rw[if_pos h0];exact ht
      · rw[if_neg h0];exact YK hl ht h _ (by omega)
    have w1:IntKind.u64.wrap ((at_:Int)*((if row=0 then l else f:Nat):Int))=((at_*(if row=0 then l else f):Nat):Int):=by
      rw[wrap_u64,←Int.natCast_mul];omega
    rw[if_neg hn,if_neg hn,w1,e3];by_cases hz:at_=nth L row - 1
    · rw[if_pos (show(at_:Int)=(nth L row:Int) - 1 by omega),if_pos hz];rfl
    · have b2':=b2 hz
      have w2:IntKind.u64.wrap (((at_:Int)+1)*((if row=0 then l else f:Nat):Int))=(((at_+1)*(if row=0 then l else f):Nat):Int):=by
        rw[wrap_u64,show((at_:Int)+1)=((at_+1:Nat):Int) by omega,←Int.natCast_mul];omega
      rw[if_neg (show ¬(at_:Int)=(nth L row:Int) - 1 by omega),if_neg hz,w2];rfl
theorem jS {L:List Nat}{ini:List (yk L)}{k:yk L}(h:(ini++[k]).map (·.1)=List.range (ini++[k]).length):k.1=ini.length∧ini.map (·.1)=List.range ini.length:=by
  rw[List.map_append,List.length_append,List.length_singleton,List.range_succ]at h;have:=List.append_inj h (by simp)
  exact⟨by simpa using this.2,this.1⟩
theorem qbV {L:List Nat}{ini:List (yk L)}(h:ini.map (·.1)=List.range ini.length){row:Int}(hlt: ∀j∈ini,(j.1:Int)<row):(ini.length:Int)≤row∨ini=[]:=by
  by_cases h0:ini=[]
  · exact .inr h0
  · refine .inl ?_
    have hl:0<ini.length:=List.length_pos_iff.2 h0;have hm:ini.length - 1∈ini.map (·.1):=by rw[h];exact List.mem_range.2 (by omega)
    obtain⟨j,hj,e⟩:=List.mem_map.1 hm;have:=hlt j hj
    omega
theorem qgt {L:List Nat}{ini:List (yk L)}(h:ini.map (·.1)=List.range ini.length)(h1:1≤ini.length):Zp L ini=nth L (ini.length - 1):=by
  obtain⟨a,k,rfl⟩: ∃a k,ini=a++[k]:=⟨_,_,(List.dropLast_concat_getLast (by intro e;subst e;simp at h1)).symm⟩;rw[qat,(jS h).1];congr 1
  simp
theorem qek {t:TreeV}{total:Nat}(ht:(total:Int)≤18446744073709551615)(hl:1≤t.ln)(h:t.err total=0){row:Int}{at_:Nat}{ini:List (yk (t.rowsOf total))}{k:yk (t.rowsOf total)}
    (hp:(ini++[k]).map (·.1)=List.range (ini++[k]).length) (hlt: ∀j∈ini,(j.1:Int)<row) (hk:row≤(k.1:Nat)) (h0:0≤row) (ha:at_<nth (t.rowsOf total) k.1):
    t.there total row at_∧ZJ t.fn t.ln total row.toNat at_ (nth (t.rowsOf total) k.1) (Zp _ ini)=(t.spot total row.toNat at_).val.cells:=by
  obtain⟨e1,e2⟩:=jS hp;have e3:row.toNat=k.1:=by
    rcases qbV e2 hlt with g|g
    · omega
    · subst g
      simp at e1
      omega
  rw[e3];refine⟨⟨h0,by rw[e3];exact k.2,by rw[e3];exact ha⟩,qfQ hl ht (qA h) k.2 ha (fun g=>?_)⟩;rw[qgt e2 (by omega),e1]
theorem qbB {t:TreeV}{total:Nat}{row:Int}{at_:Nat}{ini:List (yk (t.rowsOf total))}{k:yk (t.rowsOf total)}
    (hp:(ini++[k]).map (·.1)=List.range (ini++[k]).length) (hlt: ∀j∈ini,(j.1:Int)<row) (hk:row≤(k.1:Nat)) (h0:row<0∨nth (t.rowsOf total) k.1≤at_): ¬t.there total row at_:=by
  rintro⟨g0,g1,g2⟩
  obtain⟨e1,e2⟩:=jS hp;have e3:row.toNat=k.1:=by
    rcases qbV e2 hlt with g|g
    · omega
    · subst g
      simp at e1
      omega
  rw[e3]at g2;omega
theorem qfP {t:TreeV}{total:Nat}{row:Int}{at_:Nat}{ys:List (yk (t.rowsOf total))}(hp:ys.map (·.1)=List.range (t.rowsOf total).length)(hlt: ∀j∈ys,(j.1:Int)<row): ¬t.there total row at_:=by
  rintro⟨g0,g1, -⟩
  have hm:row.toNat∈ys.map (·.1):=by rw[hp];exact List.mem_range.2 g1
  obtain⟨j,hj,e⟩:=List.mem_map.1 hm;have:=hlt j hj
  omega
end Go.Proofs.YtahenngmaoellaaGreat
