/- Parts of rows: loaded, stored; noughts appended where there is room. No condition. -/
import Derived.Test.YthjoojnlnlmljaaGreatG15
import Derived.Laws.CopyRow
import Derived.Laws.MakeOwn
import Derived.Test.YthjoojnlnlmljaaGreatG20
import Derived.Laws.Externs
import Derived.Test.YthjoojnlnlmljaaGreatG17
import Derived.Test.YthjoojnlnlmljaaGreatG16
set_option linter.all false
set_option maxRecDepth 100000
set_option maxHeartbeats 8000000
namespace Go.Proofs.YthjoojnlnlmljaaGreat
open Go Go.ChangeShapes Go.WideShapes Go.ChangeAt Go.RowKit Go.Joins Go.Shelf Go.Maps
open Go.Lib (hid)
theorem J0 {P:Program}(w:World)(t tx ty e:TypeId)(k:IntKind)(i:TypeInfo)(z:Value)(Y:P.underlying t=some (.slice e))(J:P.underlying tx=some (.int k))(hi:P.info? e=some i)(hz:i.zero=some z)(G:i.size=1)(Z:z.cells= #[z])
  (g n I m:Nat) (q:Array Value) (hg:w.heap[g]? =some (.cells q e (0,0))) (o:n+m≤I) (U:n+m≤q.size) (hm:(m:Int)<9223372036854775808) (hb:(m:Int)*i.bytes≤281474976710656) (h1:z.oneCell'=true):
  (Builtin.append_ #[t,tx] ty #[.slice (some ⟨g,0,none⟩) n I,.int .i64 (m:Int)]).run P w=
   .ok (.slice (some ⟨g,0,none⟩) (n+m) I) (w.setRow g (q.toList.take n++List.replicate m z++q.toList.drop (n+m)).toArray):=by
 have hw:IntKind.i64.wrap (m:Int)=(m:Int):=by rw[IntKind.wrap_i64];omega
 have V: ¬(m:Int)<0:=by omega
 have ab: ¬(m:Int)*(i.bytes:Int)>281474976710656:=by omega
 have D:=run_storeCells_at P g n e (List.replicate m z) 0 q w hg (by simpa using U) (fun v hv=>by rw[List.eq_of_mem_replicate hv];exact h1);simp only[Nat.add_zero,List.length_replicate]at D;by_cases X:m=0
 ·subst X;simp only[List.replicate_zero]at D⊢;have aa:IntKind.i64.wrap 0=0:=rfl;simp only[Nat.add_zero]at o;simp[Builtin.append_,run_underlying Y,run_underlying J,sizeOf,typeInfo,hi,G,asInt,asIntOf,aa,o,Addr.add_lit]at D⊢
  rw[D];rfl
 ·have O:(Builtin.zeroCells #[z] m).toList=List.replicate m z:=by
   simp[Builtin.zeroCells,Nat.mod_one]
   apply List.ext_getElem?
   intro j;simp only[List.getElem?_map,List.getElem?_range',List.getElem?_replicate];by_cases hj:j<m<;>simp[hj,Nat.mod_one]
  simp[Builtin.append_,run_underlying Y,run_underlying J,sizeOf,typeInfo,hi,G,asInt,asIntOf,hw,V,ab,o,X,zeroValue,hz,Z,O,Addr.add_lit,D]
theorem jC {P:Program}{w:World}{ops:Array Oper}{o:Oper}{l:List Oper}{a:Act}{Q:Exit→Act→World→Prop}(Y:o.guard=none)(s x:Operand)(t U:TypeId)
  (ho:o.op= .call { callee:= .builtin .append,args:= #[s,x],argTypes:= #[t,U] }) (e:TypeId) (k:IntKind) (i:TypeInfo) (z:Value) (ht:P.underlying t=some (.slice e)) (X:P.underlying U=some (.int k)) (hi:P.info? e=some i) (hz:i.zero=some z) (I:i.size=1) (V:z.cells= #[z])
  (g n D m:Nat) (q:Array Value) (hs:a.eval s= .slice (some ⟨g,0,none⟩) n D) (Z:a.eval x= .int .i64 (m:Int)) (hg:w.heap[g]? =some (.cells q e (0,0))) (G:n+m≤D) (J:n+m≤q.size) (hm:(m:Int)<9223372036854775808) (hb:(m:Int)*i.bytes≤281474976710656) (h1:z.oneCell'=true)
  (h:wpList P ops Q l (a.put o.dst (.slice (some ⟨g,0,none⟩) (n+m) D)) (w.setRow g (q.toList.take n++List.replicate m z++q.toList.drop (n+m)).toArray)):wpList P ops Q (o::l) a w:=by
 refine wpList_plain Y fun K hK=>?_
 have O:=J0 (P:=P) w t U o.type e k i z ht X hi hz I V g n D m q hg G J hm hb h1;unfold Oper.wp execOp;simp only[ho,resolve,invoke,builtin,Sem.run_bind,Sem.run_pure,Result.andThen_ok,List.map_toArray,List.map_cons,List.map_nil,hs,Z,O];exact hK _ _ h
def zv (cur:Array Value)(o:Nat)(cells:Array Value):Array Value:=(cur.toList.take o++cells.toList++cur.toList.drop (o+cells.size)).toArray
theorem Jn {P:Program}(w:World)(g off:Nat)(t q:TypeId)(o cells:Array Value)(I:w.heap[g]? =some (.cells o t (0,0)))(D:(P.info? q).map (·.size)=some cells.size)
  (G:off+cells.size≤o.size) (U:cells.all (·.oneCell')=true):
  (storeVar q ⟨g,off,none⟩ (.agg cells)).run P w= .ok () (w.setRow g (zv o off cells)):=by
 have:=run_storeCells_at P g off t cells.toList 0 o w I (by simpa using G) (fun v J=>(Array.all_eq_true_iff_forall_mem.1 U) v (by simpa using J))
 cases hq:P.info? q with
 | none=>simp[hq]at D
 | some i=>
  have O:cells.size=i.size:=by simp[hq]at D;omega
  simp only[Nat.add_zero,Array.length_toList]at this;simp[storeVar,sizeOf,typeInfo,hq,Value.cells,O,zv]at this⊢
  exact this
theorem zR {P:Program}{o:Oper}{a:Act}{w:World}{K:Act→World→Prop}{Q:Exit→Act→World→Prop}(D:TypeId)(x y:Operand)(J:o.op= .store D x y)
  (g off:Nat) (cells:Array Value) (I:a.eval x= .pointer (some ⟨g,off,none⟩)) (O:a.eval y= .agg cells)
  (t:TypeId) (q:Array Value) (U:w.heap[g]? =some (.cells q t (0,0))) (V:(P.info? D).map (·.size)=some cells.size)
  (G:off+cells.size≤q.size) (X:cells.all (·.oneCell')=true)
  (h:K (a.put o.dst undef) (w.setRow g (zv q off cells))):o.wp P a w K Q:=by
 unfold Oper.wp execOp;simp only[J,I,O,Instr.storeAt,Instr.sureAddr,Sem.run_bind,Sem.run_pure,Result.andThen_ok,Jn w g off t D q cells U V G X];exact h
theorem zn {P:Program}{ops:Array Oper}{D:List Oper}{o:Oper}{a:Act}{w:World}{Q:Exit→Act→World→Prop}(J:o.guard=none)(G:TypeId)(x y:Operand)(U:o.op= .store G x y)
  (g off:Nat) (cells:Array Value) (O:a.eval x= .pointer (some ⟨g,off,none⟩)) (X:a.eval y= .agg cells)
  (t:TypeId) (q:Array Value) (Y:w.heap[g]? =some (.cells q t (0,0))) (Z:(P.info? G).map (·.size)=some cells.size)
  (I:off+cells.size≤q.size) (h1:cells.all (·.oneCell')=true)
  (h:wpList P ops Q D (a.put o.dst undef) (w.setRow g (zv q off cells))):wpList P ops Q (o::D) a w:=
 wpList_plain J fun _ V=>zR G x y U g off cells O X t q Y Z I h1 (V _ _ h)
theorem JZ {P:Program}(w:World)(g off:Nat)(t q:TypeId)(o cs:Array Value)(fr:Nat×Nat)(d:TypeDesc)(X:w.heap[g]? =some (.cells o t fr))
  (Y:P.underlying q=some d) (hd:(match d with| .struct _| .array _ _=>true|_=>false)=true) (O:(P.info? q).map (·.size)=some cs.size) (V: ∀j,j<cs.size→o[off+j]? =cs[j]?):
  (loadVar q ⟨g,off,none⟩).run P w= .ok (.agg cs) w:=by
 have I:(loadCells ⟨g,off,none⟩ cs.toList.length).run P w= .ok cs.toList.toArray w:=
  run_loadCells_list (P:=P) w ⟨g,off,none⟩ cs.toList (fun j v J=>by
   have Z:j<cs.size:=by have:=(List.getElem?_eq_some_iff.1 J).1;simpa using this
   have D:(⟨g,off,none⟩:Addr).add j=⟨g,off+j,none⟩:=by unfold Addr.add;split<;>simp_all
   rw[D,cell_of_row w g (off+j) o t fr X,V j Z];simpa using J)
 cases hq:P.info? q with
 | none=>simp[hq]at O
 | some i=>
  have U:i.size=cs.size:=by simpa [hq] using O
  have G:(isAgg q).run P w= .ok true w:=by
   unfold isAgg;rw[Sem.run_bind,run_underlying Y w]
   cases d<;>simp_all
  simp only[Array.length_toList,Array.toArray_toList]at I;simp[loadVar,Sem.run_bind,G,sizeOf,typeInfo,hq,U,I]
theorem qX {P:Program}{o:Oper}{a:Act}{w:World}{K:Act→World→Prop}{Q:Exit→Act→World→Prop}(D:TypeId)(x:Operand)(I:o.op= .load D x)
  (g off:Nat) (G:a.eval x= .pointer (some ⟨g,off,none⟩)) (t:TypeId) (q cs:Array Value) (fr:Nat×Nat) (d:TypeDesc) (O:w.heap[g]? =some (.cells q t fr))
  (U:P.underlying D=some d) (X:(match d with| .struct _| .array _ _=>true|_=>false)=true) (V:(P.info? D).map (·.size)=some cs.size) (J: ∀j,j<cs.size→q[off+j]? =cs[j]?)
  (h:K (a.put o.dst (.agg cs)) w):o.wp P a w K Q:=by
 unfold Oper.wp execOp;simp only[I,G,Instr.loadAt,Instr.sureAddr,Sem.run_bind,Sem.run_pure,Result.andThen_ok,JZ w g off t D q cs fr d O U X V J];exact h
theorem jT {P:Program}{w:World}{ops:Array Oper}{o:Oper}{l:List Oper}{a:Act}{Q:Exit→Act→World→Prop}(aa:o.guard=none)(s x:Operand)(t:TypeId)
  (ho:o.op= .call { callee:= .builtin .append,args:= #[s,x],argTypes:= #[t,t] }) (base:Nat) (e:TypeId) (i:TypeInfo) (Z:P.underlying t=some (.slice e)) (hi:P.info? e=some i) (U:i.size=1)
  (g n q:Nat) (J:List Value) (hs:a.eval s= .slice (some ⟨g,0,none⟩) n q) (G:w.ownsRow base e 1 (.slice (some ⟨g,0,none⟩) n q) n J)
  (u:Value) (m:Nat) (D:List Value) (hx:a.eval x=u) (X:SrcIs w u m D) (O:n+m≤q)
  (h: ∀w',w'.ownsRow base e 1 (.slice (some ⟨g,0,none⟩) (n+m) q) (n+m) (J++D)→w.grownBy w' (some g)→wpList P ops Q l (a.put o.dst (.slice (some ⟨g,0,none⟩) (n+m) q)) w'):wpList P ops Q (o::l) a w:=by
 refine wpList_plain aa fun K hK=>?_
 have Y: ∃w',(Builtin.append_ #[t,t] o.type #[.slice (some ⟨g,0,none⟩) n q,u]).run P w= .ok (.slice (some ⟨g,0,none⟩) (n+m) q) w'∧w'.ownsRow base e 1 (.slice (some ⟨g,0,none⟩) (n+m) q) (n+m) (J++D)∧w.grownBy w' (some g):=by
  obtain⟨h1,V,I⟩:=X;rcases I with⟨rfl,rfl⟩|⟨ad,c,rfl,I⟩
  ·obtain rfl:D=[]:=List.eq_nil_of_length_eq_zero h1;exact⟨w,by rw[Nat.add_zero];exact run_append_owned_none w base t o.type e i 1 Z hi _ n J G,by simpa using G,⟨rfl,rfl,rfl,Nat.le_refl _,fun _ _ _=>rfl⟩⟩
  ·exact run_append_fits w base t o.type e i 1 Z hi U g n q J G ad m c D (by omega) I V O
 obtain⟨w',hr,V,I⟩:=Y;unfold Oper.wp execOp;simp only[ho,resolve,invoke,builtin,Sem.run_bind,Sem.run_pure,Result.andThen_ok,List.map_toArray,List.map_cons,List.map_nil,hs,hx,hr];exact hK _ _ (h w' V I)
theorem zw {w:World}{base:Nat}{e:TypeId}{g n q m:Nat}{D:List Value}(h:w.ownsRow base e 1 (.slice (some ⟨g,0,none⟩) m q) n D):
  ∃o,w.heap[g]? =some (.cells o e (0,0))∧o.size=q∧o.toList.take n=D∧base≤g∧n≤q∧q≤maxLen:=by
 rcases h.2 with⟨h, -⟩|⟨Y,U,o,h,X,G,J,V,O,I⟩
 ·simp at h
 ·simp only[Value.slice.injEq,Option.some.injEq,Addr.mk.injEq,and_true,true_and]at h;obtain⟨rfl, -,rfl⟩:=h;exact⟨o,G,by simpa using O,by simpa using I,X,J,V⟩
theorem qaL {P:Program}(w:World)(base:Nat)(t O e:TypeId)(i:TypeInfo)(z:Value)(J:Nat)(X:P.underlying t=some (.slice e))(Y:P.info? e=some i)(hz:i.zero=some z)
  (D:i.size=1) (aa:i.bytes=J) (ah:z.cells.size=1) (v:Value) (n:Nat) (Z:List Value) (G:w.ownsRow base e 1 v n Z)
  (u:Value) (m:Nat) (o:List Value) (ag:SrcIs w u m o) (af:n+m≤maxLen) (I:(n+m)*J≤140737488355328) (ab:base≤w.heap.size):
  ∃v' w',(Builtin.append_ #[t,t] O #[v,u]).run P w= .ok v' w'∧w'.ownsRow base e 1 v' (n+m) (Z++o)∧w.grownBy w' v.ownBlock∧(v'.ownBlock=v.ownBlock∨v'.ownBlock=some w.heap.size):=by
 obtain⟨h1,h2,V⟩:=ag;rcases V with⟨rfl,rfl⟩|⟨ad,c,rfl,V⟩
 ·obtain rfl:o=[]:=List.eq_nil_of_length_eq_zero h1;exact⟨v,w,run_append_owned_none w base t O e i 1 X Y v n Z G,by simpa using G,⟨rfl,rfl,rfl,Nat.le_refl _,fun _ _ _=>rfl⟩,.inl rfl⟩
 ·obtain⟨v',w',hr,ho,hg, -⟩:=run_append_own (P:=P) w base t O e i z 1 J X Y hz D aa ah (by omega) v n Z G ad m c o (by omega) V h2 af I ab;refine⟨v',w',hr,ho,hg,?_⟩;have ai:n+m≤9223372036854775807:=by simp only[maxLen]at af;omega
  rcases G.2 with⟨rfl,rfl⟩|⟨g,U,ae,rfl,am,aj,ao,an,al,ak⟩
  ·by_cases hm:m=0
   ·subst hm;obtain rfl:o=[]:=List.eq_nil_of_length_eq_zero h1;rcases ho.2 with⟨rfl, -⟩|⟨g,U,ae,rfl, -⟩
    ·exact .inl rfl
    ·exfalso
     have q:(Builtin.append_ #[t,t] O #[.slice none 0 0,.slice (some ad) 0 c]).run P w= .ok (.slice none 0 0) w:=by
      simp[Builtin.append_,run_underlying X,sizeOf,typeInfo,Y,Builtin.lenOf,Builtin.firstCells,loadCells,loadCellsFrom]
     rw[hr]at q;injection q with e1
     cases e1
   ·have q:=run_append_nil (P:=P) w t O e i z X Y hz ad m c o (by rw[D];omega) V (by omega) (by omega) (by rw[aa];have hb:=I;simp only[Nat.zero_add]at hb;omega);rw[hr]at q;injection q with e1
    subst e1;exact .inr rfl
  ·by_cases ac:n+m≤U
   ·have q:=run_append_room (P:=P) w t O e i X Y g n U ae aj ad m c o (by rw[D];omega) V h2 ac (by rw[D];omega);rw[hr]at q;injection q with e1
    subst e1;exact .inl rfl
   ·have holds: ∀j u,Z[j]? =some u→w.cell? ((⟨g,0,none⟩:Addr).add j)=some u:=G.cells (g:=g) rfl;have q:=run_append_grow (P:=P) w t O e i z X Y hz ⟨g,0,none⟩ n U Z (by rw[D];exact G.1) holds ad m c o (by rw[D];omega) V (by omega) (by omega) (by rw[aa];exact growslice_fits (by omega) I);rw[hr]at q;injection q with e1
    subst e1;exact .inr rfl
theorem Yo {P:Program}{w:World}{o:Oper}{a:Act}{K:Act→World→Prop}{Q:Exit→Act→World→Prop}(s x:Operand)(t:TypeId)
  (ho:o.op= .call { callee:= .builtin .append,args:= #[s,x],argTypes:= #[t,t] }) (base:Nat)
  (e:TypeId) (i:TypeInfo) (z:Value) (q:Nat) (ht:P.underlying t=some (.slice e)) (hi:P.info? e=some i) (hz:i.zero=some z)
  (J:i.size=1) (Z:i.bytes=q) (X:z.cells.size=1) (v:Value) (n:Nat) (U:List Value) (hs:a.eval s=v) (V:w.ownsRow base e 1 v n U)
  (u:Value) (m:Nat) (D:List Value) (hx:a.eval x=u) (O:SrcIs w u m D) (Y:n+m≤maxLen) (G:(n+m)*q≤140737488355328) (I:base≤w.heap.size)
  (h: ∀v' w',w'.ownsRow base e 1 v' (n+m) (U++D)→w.grownBy w' v.ownBlock→(v'.ownBlock=v.ownBlock∨v'.ownBlock=some w.heap.size)→K (a.put o.dst v') w'):o.wp P a w K Q:=by
 obtain⟨v',w',hr,h2,h3,h4⟩:=qaL (P:=P) w base t o.type e i z q ht hi hz J Z X v n U V u m D O Y G I;unfold Oper.wp execOp;simp only[ho,resolve,invoke,builtin,Sem.run_bind,Sem.run_pure,Result.andThen_ok,List.map_toArray,List.map_cons,List.map_nil,hs,hx,hr];exact h v' w' h2 h3 h4
end Go.Proofs.YthjoojnlnlmljaaGreat
namespace Go.Proofs.YthjoojnlnlmljaaGreat
open Go.ChangeShapes Go.WideShapes Go.ChangeAt Go.RowKit Go.Joins Go.Shelf Go.Maps
open Go.Lib (hid)
attribute [local go_sem] Oper.semAt_some
def Hold (w:World)(v:Value)(zs:List Int):Prop:=
 (∀z∈zs,0≤z∧z≤255)∧((zs=[]∧v= .slice none 0 0)∨ ∃ad cap,v= .slice (some ad) zs.length cap∧zs.length≤cap∧cap≤maxLen∧(zs=[]∨ ∃b off,ad=⟨b,off,none⟩∧Qs w b off zs))
theorem Hold.nil (w:World):Hold w (.slice none 0 0) []:=⟨(fun _ h=>by cases h),.inl ⟨rfl,rfl⟩⟩
theorem Hold.holds8 {w:World}{v:Value}{zs:List Int}(h:Hold w v zs):Holds8 w v zs:=by
 rcases h.2 with⟨rfl,rfl⟩|⟨D,q,rfl,I,G,o⟩
 ·exact⟨none,0,rfl,.inl rfl⟩
 ·refine⟨some D,q,rfl,?_⟩;rcases o with o|⟨b,off,rfl,o⟩
  ·exact .inl o
  ·exact .inr ⟨b,off,rfl,o⟩
theorem Hold.slice {w:World}{v:Value}{zs:List Int}(h:Hold w v zs): ∃a o,v= .slice a zs.length o∧zs.length≤o∧(o:Int)≤9223372036854775807:=by
 rcases h.2 with⟨rfl,rfl⟩|⟨G,o,rfl,D,q,I⟩
 ·exact⟨none,0,rfl,Nat.le_refl _,by omega⟩
 ·exact⟨some G,o,rfl,D,by unfold maxLen at q;omega⟩
theorem Hold.src {w:World}{v:Value}{zs:List Int}(h:Hold w v zs):SrcIs w v zs.length (zs.map qt):=by
 rcases h.2 with⟨rfl,rfl⟩|⟨I,G,rfl,O,J,q⟩
 ·exact⟨rfl,by simp,.inl ⟨rfl,rfl⟩⟩
 ·refine⟨by simp,qej,.inr ⟨I,G,rfl,?_⟩⟩;rcases q with rfl|⟨b,off,rfl,q⟩
  ·intro j u D;simp at D
  ·intro j u D;obtain⟨o,rfl⟩:=List.getElem?_eq_some_iff.1 D;simp at o
   rw[Go.WideShapes.add_plain,q.2 j o];simp[qt,qr,Lg,o]
theorem Hold.keep {w w':World}{v:Value}{zs:List Int}(h:Hold w v zs)(J:w.heap.size≤w'.heap.size)(G: ∀b,v.ownBlock=some b→b<w.heap.size→w'.heap[b]? =w.heap[b]?):Hold w' v zs:=by
 refine⟨h.1,?_⟩;rcases h.2 with q|⟨V,D,rfl,O,q,o⟩
 ·exact .inl q
 ·refine .inr ⟨V,D,rfl,O,q,?_⟩;rcases o with o|⟨b,off,rfl,o,U⟩
  ·exact .inl o
  ·refine .inr ⟨b,off,rfl,Nat.lt_of_lt_of_le o J,fun i I=>?_⟩;rw[←U i I];exact World.cell?_of_block (G b rfl o)
theorem Hold.below {w w':World}{v:Value}{zs:List Int}(h:Hold w v zs)(q:Below w.heap.size w w'):Hold w' v zs:=h.keep q.size fun b _ o=>q.block b o
theorem Qq {W:World}{base:Nat}{v:Value}{n:Nat}{zs:List Int}(h:W.ownsRow base 5 1 v n (zs.map qt))(I: ∀z∈zs,0≤z∧z≤255):Hold W v zs:=by
 have D:zs.length=n:=by have:=h.1;simpa using this
 refine⟨I,?_⟩;rcases h.2 with⟨rfl,Y⟩|⟨g,q,U,rfl,h1,V,Z,J,h5,X⟩
 ·exact .inl ⟨List.eq_nil_of_length_eq_zero (by omega),rfl⟩
 ·refine .inr ⟨⟨g,0,none⟩,q,by rw[D],by omega,J,?_⟩;obtain⟨a,c,e,o⟩:=Q0 h;rcases o with o|⟨b,off,O,G⟩
  ·exact .inl o
  ·rw[O]at e;simp only[Value.slice.injEq,Option.some.injEq,Addr.mk.injEq,and_true]at e;obtain⟨⟨rfl,rfl⟩, -, -⟩:=e;exact .inr ⟨_,_,rfl,G⟩
theorem qcF (x y c:Nat)(o:x<18446744073709551616)(q:y<18446744073709551616)(D:c≤1)(w:World):
  (callFunc 262 #[.int .u64 (x:Nat),.int .u64 (y:Nat),.int .u64 (c:Nat)]).run Tryz.prog w=
   .ok (.value (.tuple #[.int .u64 (((x+y+c)%18446744073709551616:Nat):Int),.int .u64 (((x+y+c)/18446744073709551616:Nat):Int)])) w:=by
 rw[run_callFunc_extern Tryz.func262 (by kernel_rfl) (by kernel_rfl) (by kernel_rfl) (e:=add64Entry) (by kernel_rfl),run_add64 x y c (by omega) (by omega) (by omega) (by omega)];simp only[Result.andThen];congr 5<;>omega
theorem qdr (o n:Nat)(h:o+n<9223372036854775808)(w:World):
  Calls Tryz.prog 261 #[.agg #[.int .u64 (o:Nat),.int .u64 0],.int .u64 (n:Nat)] w fun e w'=>e= .returned (.tuple #[.agg #[.int .u64 ((o+n:Nat):Int),.int .u64 0],.bool false])∧Below w.heap.size w w':=by
 have q:=qcF o n 0 (by omega) (by omega) (by omega);have D:=qcF 0 0 0 (by omega) (by omega) (by omega);rw[show(o+n+0)%18446744073709551616=o+n by omega,show(o+n+0)/18446744073709551616=0 by omega]at q;rw[show(0+0+0)%18446744073709551616=0 by omega,show(0+0+0)/18446744073709551616=0 by omega]at D;simp only[Int.natCast_zero]at q D;obtain⟨s,G⟩:=Ex (o+n);rw[G]at q⊢;clear G h;go_enter Tryz.func261,Tryz.ntmps261
 go_wp2_with (simp only[q,D])
 exact Bp (v:= .tuple #[.agg #[.int .u64 (s:Nat),.int .u64 0],.bool false]) (by simp[results,Tryz.results261,go_sem]) rfl ⟨rfl,(Br.alloc Nl _).alloc (by simp) _⟩
theorem Zp (big:Bool)(w:World):Calls Tryz.prog 134 #[.int .i64 (kB big)] w fun e w'=>e= .returned (.int .i64 (bB big:Nat))∧w'=w:=by
 cases big<;>
 ·simp only[kB,bB,cond];go_enter Tryz.func134,Tryz.ntmps134
  go_wp2
  go_ret
  exact⟨rfl,rfl⟩
theorem YQ (big:Bool)(w:World):Calls Tryz.prog 181 #[.int .i64 (kB big)] w fun e w'=>e= .returned (.int .i64 (bB big:Nat))∧w'=w:=by
 cases big<;>
 ·simp only[kB,bB,cond];go_enter Tryz.func181,Tryz.ntmps181
  go_wp2
  go_ret
  exact⟨rfl,rfl⟩
theorem jn (zs:List Int)(v:Value)(n:Nat)(w:World)(h:Hold w v zs)(hl:zs.length≤n)(hn:1≤n∧n≤65535):
  Calls Tryz.prog 161 #[v,.int .i64 (n:Nat)] w fun e w'=> ∃v',e= .returned v'∧w'.ownsRow w.heap.size 5 1 v' n ((QC n zs).map qt)∧Below w.heap.size w w':=by
 obtain⟨i0,hi,ae,O,ab⟩:=info_parts QD;have J:=h.src;obtain⟨a,am,rfl,al,ak⟩:=h.slice;have an: ∀W:World,(Instr.makeSlice 24 (.int .i64 0) (.int .i64 (n:Nat))).run Tryz.prog W= .ok (.slice (some ⟨W.heap.size,0,none⟩) 0 n) (W.alloc (.cells (madeCells #[.int .u8 0] n) 5)):=by
  intro W;have:=run_make (P:=Tryz.prog) W 24 5 i0 (.int .u8 0) Tryz.underlying24 hi ae .i64 .i64 0 n (by omega) (by omega) (by rw[ab];omega) (by omega)
  simpa [O,show(Value.int .u8 0).cells= #[.int .u8 0] from rfl] using this
 have U:(w.alloc (.cells (madeCells #[.int .u8 0] n) 5)).ownsRow w.heap.size 5 1 (.slice (some ⟨w.heap.size,0,none⟩) 0 n) 0 []:=by
  refine⟨rfl,.inr ⟨w.heap.size,n,_,rfl,Nat.le_refl _,Wn _ _,Nat.zero_le _,by unfold maxLen;omega,by simp[madeCells],rfl⟩⟩
 have G:Below w.heap.size w (w.alloc (.cells (madeCells #[.int .u8 0] n) 5)):=Br.alloc Nl _;have X:=J.below G;clear h J;go_enter Tryz.func161,Tryz.ntmps161
 obtain⟨m,hm⟩:=Ex (n - zs.length);have aa:(n:Int) - (zs.length:Int)=(m:Int):=by omega
 have aj:m≤65535:=by omega
 have K1:=hid aa;have HM:=hid hm;have ac:zs.length+m=n:=by omega
 have o:=hid ac;obtain⟨Z,q⟩:=Ex w.heap.size;rw[q]at U G;clear aa hm ac;go_wp2_with (first|((with_reducible show wpList _ _ _ (Oper.mk (some 8) _ _ _ _ _::_) _ _);refine jT rfl _ _ _ rfl Z 5 i0 Tryz.underlying24 hi O Z 0 n [] (by rw[←q];rfl) U _ zs.length _ rfl X (by omega) ?_;intro w2 Y af;obtain⟨I,ad,D,ag, -⟩:=zw Y)|((with_reducible show wpList _ _ _ (Oper.mk (some 13) _ _ _ _ _::_) _ _);refine jC rfl _ _ _ _ rfl 5 .i64 i0 (.int .u8 0) Tryz.underlying24 Tryz.underlying3 hi ae O rfl Z zs.length n m I rfl (by rw[←K1.out];rfl) ad (by rw[o.out];exact Nat.le_refl _) (by rw[o.out,D];exact Nat.le_refl _) (by omega) (by rw[ab];omega) rfl ?_))
 go_ret
 rw[o.out];have hp:QC n zs=zs++List.replicate m 0:=by rw[←HM.out];rfl
 have V:I.toList.take zs.length=zs.map qt:=by simpa using ag
 have ai:I.toList.drop n=[]:=List.drop_of_length_le (by simp[D]);refine⟨_,rfl,⟨by rw[hp];simp[o.out],.inr ⟨Z,n,_,rfl,by omega,setRow_heap _ _ _ _ _ _ ad,Nat.le_refl _,by unfold maxLen;omega,?_,?_⟩⟩,?_⟩
 ·have ah:=congrArg List.length V;simp at ah
  simp[D,o.out];have:=o.out;omega
 ·rw[hp,V,ai];simp only[List.append_nil,List.map_append,List.map_replicate];exact List.take_of_length_le (by simp[o.out])
 ·rw[q];exact below_setRow (G.grown af (by simp[q]) (fun k e=>by cases e;exact Nat.le_refl _)) Nl _
theorem Holds8.mono_below {w w':World}{v:Value}{zs:List Int}{B:Nat}(h:Holds8 w v zs)(o:Below B w w')(q:w.heap.size≤B):Holds8 w' v zs:=Qc h (o.mono q)
theorem qd6 (h O:List Int)(hh:Words 64 8 h)(v:Value)(q:Nat)(ae:(q:Int)<9223372036854775808)(G node:Bool)(w:World)(hH:Holds8 w v O)(hz: ∀z∈O,0≤z∧z≤255)(hl:O.length=128):
  Calls Tryz.prog 184 #[.agg (qi .u64 h),v,.agg #[.int .u64 (q:Nat),.int .u64 0],.bool G,.bool node] w fun e w'=>e= .returned (.agg (qi .u64 (yq true h O (q:Nat) G node)))∧Below w.heap.size w w':=by
 obtain⟨o,D⟩:=Ex w.heap.size;have J:=ya 8 16 hz (by rw[hl]);obtain⟨M,hM⟩:=Ex (QU 8 16 O);obtain⟨R,hR⟩:=Ex (yq true h O (q:Nat) G node);have af:Words 64 8 R:=by rw[←hR];exact QQ true hh _ _ _ _
 have ag:zK mixBig IVb 12 h M (q:Nat) 0 G node=R:=by rw[←hR,←hM];rfl
 rw[hR];rw[hM]at J;have HM:=hid hM;have aj:=hid ag;have HL:=hid hl;have ao:=hid ae;clear hM hR ag hl ae;have Z:Below o w (((w.alloc (.cells (qi .u64 h) 274)).alloc (.cells #[.int .u64 (q:Nat),.int .u64 0] 281)).alloc (.cells #[.int .u64 0,.int .u64 0,.int .u64 0,.int .u64 0,.int .u64 0,.int .u64 0,.int .u64 0,.int .u64 0] 274)):=by rw[←D];exact((Br.alloc Nl _).alloc (by simp) _).alloc (by simp;omega) _
 have al:(((w.alloc (.cells (qi .u64 h) 274)).alloc (.cells #[.int .u64 (q:Nat),.int .u64 0] 281)).alloc (.cells #[.int .u64 0,.int .u64 0,.int .u64 0,.int .u64 0,.int .u64 0,.int .u64 0,.int .u64 0,.int .u64 0] 274)).heap.size=o+1+1+1:=by simp[D]
 have h0:(((w.alloc (.cells (qi .u64 h) 274)).alloc (.cells #[.int .u64 (q:Nat),.int .u64 0] 281)).alloc (.cells #[.int .u64 0,.int .u64 0,.int .u64 0,.int .u64 0,.int .u64 0,.int .u64 0,.int .u64 0,.int .u64 0] 274)).heap[o]? =some (.cells (qi .u64 h) 274 (0,0)):=by
  rw[Bh _ _ _ (by simp[D];omega),Bh _ _ _ (by simp[D]),←D];exact Wn _ _
 have h1:(((w.alloc (.cells (qi .u64 h) 274)).alloc (.cells #[.int .u64 (q:Nat),.int .u64 0] 281)).alloc (.cells #[.int .u64 0,.int .u64 0,.int .u64 0,.int .u64 0,.int .u64 0,.int .u64 0,.int .u64 0,.int .u64 0] 274)).heap[o+1]? =some (.cells #[.int .u64 (q:Nat),.int .u64 0] 281 (0,0)):=by
  rw[Bh _ _ _ (by simp[D]),show o+1=(w.alloc (.cells (qi .u64 h) 274)).heap.size by simp[D]];exact Wn _ _
 have h2:(((w.alloc (.cells (qi .u64 h) 274)).alloc (.cells #[.int .u64 (q:Nat),.int .u64 0] 281)).alloc (.cells #[.int .u64 0,.int .u64 0,.int .u64 0,.int .u64 0,.int .u64 0,.int .u64 0,.int .u64 0,.int .u64 0] 274)).heap[o+1+1]? =some (.cells #[.int .u64 0,.int .u64 0,.int .u64 0,.int .u64 0,.int .u64 0,.int .u64 0,.int .u64 0,.int .u64 0] 274 (0,0)):=by
  rw[show o+1+1=((w.alloc (.cells (qi .u64 h) 274)).alloc (.cells #[.int .u64 (q:Nat),.int .u64 0] 281)).heap.size by simp[D]];exact Wn _ _
 have HH:=hid (hH.mono_below Z (by omega));clear hH;go_enter Tryz.func184,Tryz.ntmps184
 go_wp2_with fail
 generalize (((w.alloc (.cells (qi .u64 h) 274)).alloc (.cells #[.int .u64 (q:Nat),.int .u64 0] 281)).alloc (.cells #[.int .u64 0,.int .u64 0,.int .u64 0,.int .u64 0,.int .u64 0,.int .u64 0,.int .u64 0,.int .u64 0] 274))=w0 at*;refine(qeE O v _ HH.out hz HL.out).mono ?_;rintro e U ⟨rfl,I⟩;rw[HM.out];have am:=I.size;have k0:=qg h0 I;have k1:=qg h1 I;have k2:=qg h2 I;have ad:Below o w U:=Z.trans (I.mono (by omega));have ak:o+3≤U.heap.size:=by omega
 clear h0 h1 h2 I Z HH al am;have K0:=hid k0;have K1:=hid k1;have K2:=hid k2;have ah:=hid hh;clear k0 k1 k2 hh hz;go_upto_region 2 with((with_reducible show wpList _ _ _ (Oper.mk none (Op.store 252 _ _) _ _ _ _::_) _ _);refine wpList_store_row rfl 252 _ _ rfl U.heap.size (qi .u64 M) rfl rfl 252 _ (Wn _ _) (by rw[qf,J.1];kernel_rfl) (by rw[qf,J.1];rfl) qA ?_)
 refine qm ?_;intro W V;obtain⟨bv,Y⟩:=Ex U.heap.size;have g0:W.heap[o]? =some (.cells (qi .u64 h) 274 (0,0)):=by rw[V];exact(setRow_other (U.alloc _) _ _ _ (by omega)).trans ((Bh _ _ _ (by omega)).trans K0.out)
 have g1:W.heap[o+1]? =some (.cells #[.int .u64 (q:Nat),.int .u64 0] 281 (0,0)):=by rw[V];exact(setRow_other (U.alloc _) _ _ _ (by omega)).trans ((Bh _ _ _ (by omega)).trans K1.out)
 have g2:W.heap[o+1+1]? =some (.cells #[.int .u64 0,.int .u64 0,.int .u64 0,.int .u64 0,.int .u64 0,.int .u64 0,.int .u64 0,.int .u64 0] 274 (0,0)):=by rw[V];exact(setRow_other (U.alloc _) _ _ _ (by omega)).trans ((Bh _ _ _ (by omega)).trans K2.out)
 have g3:W.heap[bv]? =some (.cells (qi .u64 M) 252 (0,0)):=by rw[V,←Y];exact setRow_heap _ _ _ _ _ _ (Wn _ _)
 have ab:Below o w W:=by rw[V];exact below_setRow (ad.alloc (by omega) _) (by omega) _
 rw[Y];clear V ad Y ak K0 K1 K2;have X:=hid af;have ac:=hid J;clear af J;have ai:=qd g1 0;go_wp2_with (first|((with_reducible show wpList _ _ _ (Oper.mk (some 18) _ _ _ _ _::_) _ _);refine wpList_load_row rfl 274 _ rfl o rfl _ _ _ _ g0 Tryz.underlying274 rfl (by rw[qf,ah.out.1];kernel_rfl) ?_)|((with_reducible show wpList _ _ _ (Oper.mk (some 19) _ _ _ _ _::_) _ _);refine wpList_load_row rfl 252 _ rfl bv rfl _ _ _ _ g3 Tryz.underlying252 rfl (by rw[qf,ac.out.1];kernel_rfl) ?_)|((with_reducible show wpList _ _ _ (Oper.mk (some 20) _ _ _ _ _::_) _ _);refine wpList_load_row rfl 281 _ rfl (o+1) rfl _ _ _ _ g1 Tryz.underlying281 rfl (by kernel_rfl) ?_))
 refine(qiF h M ah.out ac.out (q:Nat) 0 G node _).mono ?_;rintro e w2 ⟨rfl,aa⟩;rw[aj.out];have j2:=qg g2 aa;have an:Below o w w2:=ab.trans (aa.mono (by have:=(Ai g2).1;omega));clear g0 g1 g2 g3 ab aa ai;go_wp2_with ((with_reducible show wpList _ _ _ (Oper.mk none (Op.store 274 _ _) _ _ _ _::_) _ _);refine wpList_store_row rfl 274 _ _ rfl (o+1+1) (qi .u64 R) rfl rfl 274 _ j2 (by rw[qf,X.out.1];kernel_rfl) (by rw[qf,X.out.1];rfl) qA ?_)
 exact Bp (results_cell_row rfl _ _ (o+1+1) 274 _ _ _ rfl (setRow_heap _ _ _ _ _ _ j2) Tryz.underlying274 rfl (by rw[qf,X.out.1];kernel_rfl)) rfl ⟨rfl,by rw[D];exact below_setRow an (by omega) _⟩
theorem qct (h O:List Int)(hh:Words 32 8 h)(v:Value)(q:Nat)(ae:(q:Int)<9223372036854775808)(G node:Bool)(w:World)(hH:Holds8 w v O)(hz: ∀z∈O,0≤z∧z≤255)(hl:O.length=64):
  Calls Tryz.prog 187 #[.agg (qi .u32 h),v,.agg #[.int .u64 (q:Nat),.int .u64 0],.bool G,.bool node] w fun e w'=>e= .returned (.agg (qi .u32 (yq false h O (q:Nat) G node)))∧Below w.heap.size w w':=by
 obtain⟨o,D⟩:=Ex w.heap.size;have J:=ya 4 16 hz (by rw[hl]);obtain⟨M,hM⟩:=Ex (QU 4 16 O);obtain⟨R,hR⟩:=Ex (yq false h O (q:Nat) G node);have af:Words 32 8 R:=by rw[←hR];exact QQ false hh _ _ _ _
 have ag:zK mixSmall IVs 10 h M ((q:Nat)%4294967296) ((q:Nat)/4294967296) G node=R:=by rw[←hR,←hM];rfl
 rw[hR];rw[hM]at J;have HM:=hid hM;have ak:=hid ag;have HL:=hid hl;have ai:=hid ae;clear hM hR ag hl ae;have Z:Below o w (((w.alloc (.cells (qi .u32 h) 284)).alloc (.cells #[.int .u64 (q:Nat),.int .u64 0] 281)).alloc (.cells #[.int .u32 0,.int .u32 0,.int .u32 0,.int .u32 0,.int .u32 0,.int .u32 0,.int .u32 0,.int .u32 0] 284)):=by rw[←D];exact((Br.alloc Nl _).alloc (by simp) _).alloc (by simp;omega) _
 have am:(((w.alloc (.cells (qi .u32 h) 284)).alloc (.cells #[.int .u64 (q:Nat),.int .u64 0] 281)).alloc (.cells #[.int .u32 0,.int .u32 0,.int .u32 0,.int .u32 0,.int .u32 0,.int .u32 0,.int .u32 0,.int .u32 0] 284)).heap.size=o+1+1+1:=by simp[D]
 have h0:(((w.alloc (.cells (qi .u32 h) 284)).alloc (.cells #[.int .u64 (q:Nat),.int .u64 0] 281)).alloc (.cells #[.int .u32 0,.int .u32 0,.int .u32 0,.int .u32 0,.int .u32 0,.int .u32 0,.int .u32 0,.int .u32 0] 284)).heap[o]? =some (.cells (qi .u32 h) 284 (0,0)):=by
  rw[Bh _ _ _ (by simp[D];omega),Bh _ _ _ (by simp[D]),←D];exact Wn _ _
 have h1:(((w.alloc (.cells (qi .u32 h) 284)).alloc (.cells #[.int .u64 (q:Nat),.int .u64 0] 281)).alloc (.cells #[.int .u32 0,.int .u32 0,.int .u32 0,.int .u32 0,.int .u32 0,.int .u32 0,.int .u32 0,.int .u32 0] 284)).heap[o+1]? =some (.cells #[.int .u64 (q:Nat),.int .u64 0] 281 (0,0)):=by
  rw[Bh _ _ _ (by simp[D]),show o+1=(w.alloc (.cells (qi .u32 h) 284)).heap.size by simp[D]];exact Wn _ _
 have h2:(((w.alloc (.cells (qi .u32 h) 284)).alloc (.cells #[.int .u64 (q:Nat),.int .u64 0] 281)).alloc (.cells #[.int .u32 0,.int .u32 0,.int .u32 0,.int .u32 0,.int .u32 0,.int .u32 0,.int .u32 0,.int .u32 0] 284)).heap[o+1+1]? =some (.cells #[.int .u32 0,.int .u32 0,.int .u32 0,.int .u32 0,.int .u32 0,.int .u32 0,.int .u32 0,.int .u32 0] 284 (0,0)):=by
  rw[show o+1+1=((w.alloc (.cells (qi .u32 h) 284)).alloc (.cells #[.int .u64 (q:Nat),.int .u64 0] 281)).heap.size by simp[D]];exact Wn _ _
 have HH:=hid (hH.mono_below Z (by omega));clear hH;go_enter Tryz.func187,Tryz.ntmps187
 go_wp2_with fail
 generalize (((w.alloc (.cells (qi .u32 h) 284)).alloc (.cells #[.int .u64 (q:Nat),.int .u64 0] 281)).alloc (.cells #[.int .u32 0,.int .u32 0,.int .u32 0,.int .u32 0,.int .u32 0,.int .u32 0,.int .u32 0,.int .u32 0] 284))=w0 at*;refine(qeF O v _ HH.out hz HL.out).mono ?_;rintro e U ⟨rfl,I⟩;rw[HM.out];have an:=I.size;have k0:=qg h0 I;have k1:=qg h1 I;have k2:=qg h2 I;have ad:Below o w U:=Z.trans (I.mono (by omega));have al:o+3≤U.heap.size:=by omega
 clear h0 h1 h2 I Z HH am an;have K0:=hid k0;have K1:=hid k1;have K2:=hid k2;have ah:=hid hh;clear k0 k1 k2 hh hz;go_upto_region 2 with((with_reducible show wpList _ _ _ (Oper.mk none (Op.store 298 _ _) _ _ _ _::_) _ _);refine wpList_store_row rfl 298 _ _ rfl U.heap.size (qi .u32 M) rfl rfl 298 _ (Wn _ _) (by rw[qf,J.1];kernel_rfl) (by rw[qf,J.1];rfl) qA ?_)
 refine qm ?_;intro W V;obtain⟨bv,Y⟩:=Ex U.heap.size;have g0:W.heap[o]? =some (.cells (qi .u32 h) 284 (0,0)):=by rw[V];exact(setRow_other (U.alloc _) _ _ _ (by omega)).trans ((Bh _ _ _ (by omega)).trans K0.out)
 have g1:W.heap[o+1]? =some (.cells #[.int .u64 (q:Nat),.int .u64 0] 281 (0,0)):=by rw[V];exact(setRow_other (U.alloc _) _ _ _ (by omega)).trans ((Bh _ _ _ (by omega)).trans K1.out)
 have g2:W.heap[o+1+1]? =some (.cells #[.int .u32 0,.int .u32 0,.int .u32 0,.int .u32 0,.int .u32 0,.int .u32 0,.int .u32 0,.int .u32 0] 284 (0,0)):=by rw[V];exact(setRow_other (U.alloc _) _ _ _ (by omega)).trans ((Bh _ _ _ (by omega)).trans K2.out)
 have g3:W.heap[bv]? =some (.cells (qi .u32 M) 298 (0,0)):=by rw[V,←Y];exact setRow_heap _ _ _ _ _ _ (Wn _ _)
 have ab:Below o w W:=by rw[V];exact below_setRow (ad.alloc (by omega) _) (by omega) _
 rw[Y];clear V ad Y al K0 K1 K2;have X:=hid af;have ac:=hid J;clear af J;have aj:=qd g1 0;go_wp2_with (first|((with_reducible show wpList _ _ _ (Oper.mk (some 18) _ _ _ _ _::_) _ _);refine wpList_load_row rfl 284 _ rfl o rfl _ _ _ _ g0 Tryz.underlying284 rfl (by rw[qf,ah.out.1];kernel_rfl) ?_)|((with_reducible show wpList _ _ _ (Oper.mk (some 19) _ _ _ _ _::_) _ _);refine wpList_load_row rfl 298 _ rfl bv rfl _ _ _ _ g3 Tryz.underlying298 rfl (by rw[qf,ac.out.1];kernel_rfl) ?_))
 refine(qiG h M ah.out ac.out (q:Nat) (by omega) (by have:=ai.out;omega) G node _).mono ?_;rintro e w2 ⟨rfl,aa⟩;rw[ak.out];have j2:=qg g2 aa;have ao:Below o w w2:=ab.trans (aa.mono (by have:=(Ai g2).1;omega));clear g0 g1 g2 g3 ab aa aj;go_wp2_with ((with_reducible show wpList _ _ _ (Oper.mk none (Op.store 284 _ _) _ _ _ _::_) _ _);refine wpList_store_row rfl 284 _ _ rfl (o+1+1) (qi .u32 R) rfl rfl 284 _ j2 (by rw[qf,X.out.1];kernel_rfl) (by rw[qf,X.out.1];rfl) qA ?_)
 exact Bp (results_cell_row rfl _ _ (o+1+1) 284 _ _ _ rfl (setRow_heap _ _ _ _ _ _ j2) Tryz.underlying284 rfl (by rw[qf,X.out.1];kernel_rfl)) rfl ⟨rfl,by rw[D];exact below_setRow ao (by omega) _⟩
def zg (h:List Int)(lo:Int)(hv:Value):Array Value:= #[.int .u64 (wd h 0),.int .u64 (wd h 1),.int .u64 (wd h 2),.int .u64 (wd h 3),.int .u64 (wd h 4),.int .u64 (wd h 5),.int .u64 (wd h 6),.int .u64 (wd h 7),.int .u64 lo,.int .u64 0,hv,.int .i64 128,.func (.func 184) #[] #[],.func (.func 185) #[] #[]]
def zf (h:List Int)(lo:Int)(hv:Value):Array Value:= #[.int .u32 (wd h 0),.int .u32 (wd h 1),.int .u32 (wd h 2),.int .u32 (wd h 3),.int .u32 (wd h 4),.int .u32 (wd h 5),.int .u32 (wd h 6),.int .u32 (wd h 7),.int .u64 lo,.int .u64 0,hv,.int .i64 64,.func (.func 187) #[] #[],.func (.func 188) #[] #[]]
theorem qfK (o:List Int)(v:Value)(w:World)(Z:Holds8 w v o)(hz: ∀z∈o,0≤z∧z≤255)(hl:o.length=64):
  Calls Tryz.prog 160 #[.int .i64 1,v] w fun e w'=> ∃p,e= .returned (.iface 277 (.pointer (some ⟨p,0,none⟩)))∧w.heap.size≤p∧w'.heap[p]? =some (.cells (zg (h0Z true o) 0 (.slice none 0 0)) 283 (0,0))∧Below w.heap.size w w':=by
 obtain⟨H,q⟩:=Ex (h0Z true o);have U:Words 64 8 H:=by rw[←q];exact QS true o
 have V:ym .u64 IVb 8 o=H:=by rw[←q];rfl
 rw[q];have aa:=hid V;clear q V;have Y:=hid U;clear U;go_enter Tryz.func160,Tryz.ntmps160
 go_wp2_with fail
 refine(qeS o v _ Z hz hl).mono ?_;rintro e w1 ⟨rfl,D⟩;rw[aa.out];clear Z hz hl;go_upto_region 3 with((with_reducible show wpList _ _ _ (Oper.mk none (Op.store 274 _ _) _ _ _ _::_) _ _);refine wpList_store_row rfl 274 _ _ rfl w1.heap.size (qi .u64 H) rfl rfl 274 _ (Wn _ _) (by rw[qf,Y.out.1];kernel_rfl) (by rw[qf,Y.out.1];rfl) qA ?_)
 refine qm ?_;intro W X;obtain⟨bv,I⟩:=Ex w1.heap.size;have O:=D.size;have g3:W.heap[bv]? =some (.cells (qi .u64 H) 274 (0,0)):=by rw[X,←I];exact setRow_heap _ _ _ _ _ _ (Wn _ _)
 have G:Below w.heap.size w W:=by rw[X];exact below_setRow (D.alloc O _) O _
 rw[I];clear X;rw[zQ Y.out]at g3;have J:=G.size;go_wp2_with (first|((with_reducible show wpList _ _ _ (Oper.mk (some 16) _ _ _ _ _::_) _ _);refine wpList_load_row rfl 274 _ rfl bv rfl _ _ _ _ g3 Tryz.underlying274 rfl (by kernel_rfl) ?_))
 go_ret
 exact⟨_,rfl,J,Wn _ _,G.alloc J _⟩
theorem qes (o:List Int)(v:Value)(w:World)(Z:Holds8 w v o)(hz: ∀z∈o,0≤z∧z≤255)(hl:o.length=32):
  Calls Tryz.prog 160 #[.int .i64 2,v] w fun e w'=> ∃p,e= .returned (.iface 287 (.pointer (some ⟨p,0,none⟩)))∧w.heap.size≤p∧w'.heap[p]? =some (.cells (zf (h0Z false o) 0 (.slice none 0 0)) 291 (0,0))∧Below w.heap.size w w':=by
 obtain⟨H,q⟩:=Ex (h0Z false o);have U:Words 32 8 H:=by rw[←q];exact QS false o
 have V:ym .u32 IVs 4 o=H:=by rw[←q];rfl
 rw[q];have aa:=hid V;clear q V;have Y:=hid U;clear U;go_enter Tryz.func160,Tryz.ntmps160
 go_wp2_with fail
 refine(qeT o v _ Z hz hl).mono ?_;rintro e w1 ⟨rfl,D⟩;rw[aa.out];clear Z hz hl;go_upto_region 5 with((with_reducible show wpList _ _ _ (Oper.mk none (Op.store 284 _ _) _ _ _ _::_) _ _);refine wpList_store_row rfl 284 _ _ rfl w1.heap.size (qi .u32 H) rfl rfl 284 _ (Wn _ _) (by rw[qf,Y.out.1];kernel_rfl) (by rw[qf,Y.out.1];rfl) qA ?_)
 refine qm ?_;intro W X;obtain⟨bv,I⟩:=Ex w1.heap.size;have O:=D.size;have g3:W.heap[bv]? =some (.cells (qi .u32 H) 284 (0,0)):=by rw[X,←I];exact setRow_heap _ _ _ _ _ _ (Wn _ _)
 have G:Below w.heap.size w W:=by rw[X];exact below_setRow (D.alloc O _) O _
 rw[I];clear X;rw[zQ Y.out]at g3;have J:=G.size;go_wp2_with (first|((with_reducible show wpList _ _ _ (Oper.mk (some 25) _ _ _ _ _::_) _ _);refine wpList_load_row rfl 284 _ rfl bv rfl _ _ _ _ g3 Tryz.underlying284 rfl (by kernel_rfl) ?_))
 go_ret
 exact⟨_,rfl,J,Wn _ _,G.alloc J _⟩
structure Spare (S:Nat→Prop)(w w':World):Prop where
 os:w'.os=w.os
 tape:w'.tape=w.tape
 output:w'.output=w.output
 size:w.heap.size≤w'.heap.size
 block: ∀k,k<w.heap.size→S k→w'.heap[k]? =w.heap[k]?
namespace Spare
variable {S T:Nat→Prop} {w w' w'':World}
theorem refl (S:Nat→Prop)(w:World):Spare S w w:=⟨rfl,rfl,rfl,Nat.le_refl _,fun _ _ _=>rfl⟩
theorem trans (h:Spare S w w')(k:Spare T w' w'')(D: ∀b,b<w.heap.size→S b→T b):Spare S w w'':=
 ⟨k.os.trans h.os,k.tape.trans h.tape,k.output.trans h.output,Nat.le_trans h.size k.size,fun b o q=>(k.block b (Nat.lt_of_lt_of_le o h.size) (D b o q)).trans (h.block b o q)⟩
theorem of_below (S:Nat→Prop)(h:Below w.heap.size w w'):Spare S w w':=⟨h.os,h.tape,h.output,h.size,fun k o _=>h.block k o⟩
theorem below (h:Spare S w w'){B:Nat}(D:B≤w.heap.size)(q: ∀k,k<B→S k):Below B w w':=⟨h.os,h.tape,h.output,h.size,fun k o=>h.block k (by omega) (q k o)⟩
theorem of_but {b:Nat}(h:But b w w'):Spare (fun k=>k≠b) w w':=⟨h.os,h.tape,h.output,h.size,fun k o q=>h.block k o q⟩
theorem of_grown {b:Option Nat}(h:w.grownBy w' b):Spare (fun k=>b≠some k) w w':=⟨h.os,h.tape,h.output,h.size,fun k o q=>h.block k o (fun e=>q e.symm)⟩
end Spare
def QT (big:Bool)(w:World)(p:Nat)(hv:Value)(h0 msg:List Int):Prop:=
 w.heap[p]? =some (.cells (cond big zg zf (stZ big h0 msg (nbk (bB big) msg.length)) ((bB big*nbk (bB big) msg.length:Nat):Int) hv) (cond big 283 291) (0,0))∧
 w.ownsRow 0 5 1 hv (Q8 (bB big) msg).length ((Q8 (bB big) msg).map qt)
def zl (p:Nat)(hv:Value):Nat→Prop:=fun k=>k≠p∧hv.ownBlock≠some k
theorem qdn (H:List Int)(o:Int)(q:Value): ∀j,j<2→(zg H o q)[8+j]? =(#[.int .u64 o,.int .u64 0]:Array Value)[j]? :=by
 intro j D;rcases(show j=0∨j=1 by omega)with rfl|rfl<;>rfl
theorem qdm (H:List Int)(o:Int)(q:Value): ∀j,j<2→(zf H o q)[8+j]? =(#[.int .u64 o,.int .u64 0]:Array Value)[j]? :=by
 intro j D;rcases(show j=0∨j=1 by omega)with rfl|rfl<;>rfl
theorem qhN {H:List Int}(D:Words 64 8 H)(q:Int)(G:Value): ∀j,j<(qi .u64 H).size→(zg H q G)[0+j]? =(qi .u64 H)[j]? :=by
 rw[zQ D];intro j o;have o:j<8:=o;rcases(show j=0∨j=1∨j=2∨j=3∨j=4∨j=5∨j=6∨j=7 by omega)with rfl|rfl|rfl|rfl|rfl|rfl|rfl|rfl<;>rfl
theorem qhM {H:List Int}(D:Words 32 8 H)(q:Int)(G:Value): ∀j,j<(qi .u32 H).size→(zf H q G)[0+j]? =(qi .u32 H)[j]? :=by
 rw[zQ D];intro j o;have o:j<8:=o;rcases(show j=0∨j=1∨j=2∨j=3∨j=4∨j=5∨j=6∨j=7 by omega)with rfl|rfl|rfl|rfl|rfl|rfl|rfl|rfl<;>rfl
theorem qfy (H:List Int)(D o:Int)(q:Value):zv (zg H D q) 8 #[.int .u64 o,.int .u64 0]=zg H o q:=rfl
theorem qfx (H:List Int)(D o:Int)(q:Value):zv (zf H D q) 8 #[.int .u64 o,.int .u64 0]=zf H o q:=rfl
theorem qgP {o:List Int}(h:Words 64 8 o)(H:List Int)(q:Int)(D:Value):zv (zg H q D) 0 (qi .u64 o)=zg o q D:=by rw[zQ h];rfl
theorem qgO {o:List Int}(h:Words 32 8 o)(H:List Int)(q:Int)(D:Value):zv (zf H q D) 0 (qi .u32 o)=zf o q D:=by rw[zQ h];rfl
def qiM (big:Bool)(w0:World)(S:Nat→Prop)(p:Nat)(hv0:Value)(h0 msg:List Int)(W:World):Prop:=
 ∃H lo hl hv,W.heap[p]? =some (.cells (cond big zg zf H ((lo:Nat):Int) hv) (cond big 283 291) (0,0))∧W.ownsRow 0 5 1 hv hl.length (hl.map qt)∧hl.length<bB big∧qfN big h0 msg H lo hl∧
  (hv.ownBlock=hv0.ownBlock∨ ∀g,hv.ownBlock=some g→w0.heap.size≤g)∧Spare S w0 W
theorem But.of_setRow (w:World)(p:Nat)(cs:Array Value):But p w (w.setRow p cs):=⟨rfl,rfl,rfl,by simp,fun k _ o=>setRow_other w p k cs o⟩
def lenV:Value→Nat
 | .slice _ n _=>n
 | _=>0
theorem yu {W:World}{B n m:Nat}{e:TypeId}{a:Option Addr}{c:Nat}{q:List Value}(h:W.ownsRow B e 1 (.slice a m c) n q):m=n:=by
 rcases h.2 with⟨o,I⟩|⟨g,D,G,o, -⟩
 ·simp only[Value.slice.injEq]at o;omega
 ·simp only[Value.slice.injEq]at o;exact o.2.1
theorem Yc {W W':World}{p:Nat}{v:Value}{n:Nat}{G:List Value}{c:Array Value}{T:TypeId}{fr:Nat×Nat}(h:W.ownsRow 0 5 1 v n G)(V:But p W W')(O:W.heap[p]? =some (.cells c T fr))(J:T≠5):W'.ownsRow 0 5 1 v n G:=by
 refine⟨h.1,?_⟩;rcases h.2 with o|⟨g,D,q,e,X,o,I⟩
 ·exact .inl o
 ·refine .inr ⟨g,D,q,e,X,?_,I⟩;have U:g<W.heap.size:=(Ai o).1;rw[V.block g U ?_];exact o;rintro rfl
  rw[O]at o;simp only[Option.some.injEq,Obj.cells.injEq]at o;exact J o.2.1
theorem ZX {W:World}{a:Option Addr}{m c n:Nat}{q:List Value}(h:W.ownsRow 0 5 1 (.slice a m c) n q)(D:n≠0): ∃g,a=some ⟨g,0,none⟩:=by
 rcases h.2 with⟨-,o⟩|⟨g,G,I,e, -⟩
 ·exact absurd o D
 ·simp only[Value.slice.injEq]at e;exact⟨g,e.1⟩
theorem qd1 {W:World}{g m c n:Nat}{D:List Value}(h:W.ownsRow 0 5 1 (.slice (some ⟨g,0,none⟩) m c) n D):W.ownsRow 0 5 1 (.slice (some ⟨g,0,none⟩) 0 c) 0 []:=by
 refine⟨rfl,?_⟩;rcases h.2 with⟨o, -⟩|⟨U,O,q,e,I,o,X,J,G,V⟩
 ·simp at o
 ·simp only[Value.slice.injEq,Option.some.injEq,Addr.mk.injEq,and_true,true_and]at e;obtain⟨rfl, -,rfl⟩:=e;exact .inr ⟨g,c,q,rfl,I,o,Nat.zero_le _,J,G,rfl⟩
theorem qc5 {W:World}{p:Nat}{v:Value}{n:Nat}{G:List Value}{c:Array Value}{T:TypeId}{fr:Nat×Nat}(h:W.ownsRow 0 5 1 v n G)(D:W.heap[p]? =some (.cells c T fr))(q:T≠5):some p≠v.ownBlock:=by
 rcases h.2 with⟨rfl, -⟩|⟨g,J,I,rfl,U,o,O⟩
 ·intro e;cases e
 ·intro e;simp only[Value.ownBlock,Option.some.injEq]at e;subst e;rw[D]at o;simp only[Option.some.injEq,Obj.cells.injEq]at o;exact q o.2.1
theorem qcx {w:World}{a:Option Addr}{n c k:Nat}{zs:List Int}(h:Hold w (.slice a n c) zs)(q:k≤zs.length):Hold w (.slice a k c) (zs.take k):=by
 refine⟨fun z I=>h.1 z (List.mem_of_mem_take I),?_⟩;rcases h.2 with⟨rfl,e⟩|⟨U,V,e,X,G,o⟩
 ·simp only[Value.slice.injEq]at e;obtain⟨rfl, -,rfl⟩:=e;obtain rfl:k=0:=by simpa using q
  exact .inl ⟨rfl,rfl⟩
 ·simp only[Value.slice.injEq]at e;obtain⟨rfl, -,rfl⟩:=e;refine .inr ⟨U,c,by simp[List.length_take,Nat.min_eq_left q],by simp;omega,G,?_⟩;rcases o with o|⟨b,off,rfl,o,J⟩
  ·exact .inl (by rw[o];simp)
  ·refine .inr ⟨b,off,rfl,o,fun i O=>?_⟩;have D:i<k:=by simp at O;omega
   rw[J i (by omega)];simp[qr,Lg,D]
theorem zd {w J W1:World}{b v:Value}{zs Z:List Int}{S:Nat→Prop}(h:Hold W1 b zs)(hv:Hold w v Z)(V:b.ownBlock=v.ownBlock)(h1:Spare S w W1)(U:Spare S w J)(hS: ∀k,v.ownBlock=some k→S k)(I:Z≠[]):Hold J b zs:=by
 refine⟨h.1,?_⟩;rcases h.2 with h2|⟨ad,X,rfl,h3,h4,G⟩
 ·exact .inl h2
 ·refine .inr ⟨ad,X,rfl,h3,h4,?_⟩;rcases G with G|⟨Y,off,rfl,G,h7⟩
  ·exact .inl G
  ·have O:v.ownBlock=some Y:=V.symm;rcases hv.2 with⟨q, -⟩|⟨ab,aa,rfl, -, -,q⟩
   ·exact absurd q I
   obtain⟨o,o8,rfl,q, -⟩:=q.resolve_left I;obtain rfl:o=Y:=by simpa [Value.ownBlock] using O
   have D:o<w.heap.size:=q;refine .inr ⟨o,off,rfl,Nat.lt_of_lt_of_le D U.size,fun i hi=>?_⟩;have e1:J.heap[o]? =W1.heap[o]? :=(U.block o D (hS o O)).trans (h1.block o D (hS o O)).symm;rw[←h7 i hi];exact World.cell?_of_block e1
theorem qcy {w:World}{a:Option Addr}{n c:Nat}{zs:List Int}(h:Hold w (.slice a n c) zs)(o:zs≠[]): ∃b off,a=some ⟨b,off,none⟩:=by
 rcases h.2 with⟨q, -⟩|⟨I,G,e, -, -,D⟩
 ·exact absurd q o
 ·obtain⟨b,off,rfl, -⟩:=D.resolve_left o;simp only[Value.slice.injEq]at e;exact⟨b,off,e.1⟩
theorem qcz {w:World}{a D:Option Addr}{n c k I o:Nat}{zs:List Int}(h:Hold w (.slice a n c) zs)(hk:k≤zs.length)(O:I=zs.length - k)(hc:o=c - k)(b off:Nat)(U:a=some ⟨b,off,none⟩)(G:D=some ⟨b,off+k,none⟩∨D=a∧c=k):Hold w (.slice D I o) (zs.drop k):=by
 subst U;refine⟨fun z X=>h.1 z (List.mem_of_mem_drop X),?_⟩;rcases h.2 with⟨rfl,e⟩|⟨ad,ab,e,h1,h2,q⟩
 ·simp at e
 ·simp only[Value.slice.injEq,Option.some.injEq]at e;obtain⟨rfl, -,rfl⟩:=e;rcases G with rfl|⟨rfl,aa⟩
  ·refine .inr ⟨⟨b,off+k,none⟩,o,by simp[O],by simp;omega,by omega,?_⟩;rcases q with rfl|⟨b',V,e,q,Y⟩
   ·exact .inl (by simp)
   ·simp only[Addr.mk.injEq,and_true]at e;obtain⟨rfl,rfl⟩:=e;refine .inr ⟨b,off+k,rfl,q,fun i Z=>?_⟩;have J:k+i<zs.length:=by simp at Z;omega
    have:=Y (k+i) J
    rw[←Nat.add_assoc]at this;rw[this];simp[qr,Lg]
  ·refine .inr ⟨⟨b,off,none⟩,o,by simp[O],by simp;omega,by omega,.inl ?_⟩;exact List.drop_of_length_le (by omega)
theorem qa1 (h0 ae U:List Int)(hh:Words 64 8 h0)(hm: ∀z∈ae,0≤z∧z≤255)(p:Nat)(hv v:Value)(w:World)(hE:QT true w p hv h0 ae)(hH:Hold w v U)(hF:U≠[]→ ∀b,v.ownBlock=some b→zl p hv b)(cV:(ae.length:Int)+U.length≤140737488355328):
  Calls Tryz.prog 260 #[.pointer (some ⟨p,0,none⟩),v] w fun e w'=>e= .returned (.tuple #[])∧(∃ap,QT true w' p ap h0 (ae++U)∧(ap.ownBlock=hv.ownBlock∨ ∀g,ap.ownBlock=some g→w.heap.size≤g))∧Spare (zl p hv) w w':=by
 obtain⟨i0,hi,cy,cR,cE⟩:=info_parts QD;have c5:p<w.heap.size:=(Ai hE.1).1;have cG:=hid hh;have cJ:=hid hm;have HE:=hid hE;have HH:=hid hH;have HF:=hid hF;have bZ:=hH.1;have HZ:=hid bZ;clear hh hm hE hH hF bZ;obtain⟨S,hS⟩:=Ex (zl p hv);have HS:=hid hS;rw[hS];clear hS;go_enter Tryz.func260,Tryz.ntmps260
 go_wp2_with fail
 go_loopw [1] (fun b wr=> ∃j:Nat,j≤U.length∧Hold wr b (U.drop j)∧b.ownBlock=v.ownBlock∧(∃ap,QT true wr p ap h0 (ae++U.take j)∧(ap.ownBlock=hv.ownBlock∨ ∀g,ap.ownBlock=some g→w.heap.size≤g))∧Spare S w wr) (fun b _=>lenV b)
 case atStart=>exact⟨0,Nat.zero_le _,by simpa using HH.out,rfl,⟨hv,by simpa using HE.out,.inl rfl⟩,Spare.refl _ _⟩
 case round=>
  obtain⟨j,hj,aV,bD,⟨cQ,ce,aO⟩,bL⟩:=hrel;have cO:=hid aV;have ao:=hid bL;have bu:=hid ce;have aS:=hid bD;have al:=hid aO;obtain⟨ab,cb,rfl,ch,cX⟩:=aV.slice;clear aV bL ce bD aO;by_cases af:j<U.length
  case neg=>
   obtain rfl:j=U.length:=by omega
   have aA:(U.drop U.length).length=0:=by simp
   rw[aA]at*;go_wp2
   go_end0
   have h1:=bu.out;rw[List.take_length]at h1;exact⟨rfl,⟨cQ,h1,al.out⟩,ao.out⟩
  have cf:(U.drop j).length=U.length - j:=by simp
  have cM:0<(U.drop j).length:=by omega
  have q:((U.drop j).length:Int)≤140737488355328:=by omega
  obtain⟨m1,az⟩:=Ex (ae++U.take j);have c7:m1.length≤140737488355328:=by rw[←az];simp;omega
  have a6: ∀z∈m1,0≤z∧z≤255:=by
   rw[←az];intro z hz;rcases List.mem_append.1 hz with hz|hz
   ·exact cJ.out z hz
   ·exact HZ.out z (List.mem_of_mem_take hz)
  have c9:=hid a6;have cK:=hid cf;have bS:=bu.out;rw[az]at bS;have cp:=hid az;obtain⟨N,hN⟩:=Ex ((U.drop j).length);rw[hN]at cM q ch⊢;have HN:=hid hN;have bn:=JF (YB true) m1;have bG:=qcr true h0 m1;have bo:=qcs true h0 m1;have a8:=Z3 (YB true) m1;have bY:=Y5 (n:=bB true) a6;have b4:=yN true cG.out m1 (nbk (bB true) m1.length);obtain⟨aa,ax⟩:=bS;simp only[cond]at aa;generalize stZ true h0 m1 (nbk (bB true) m1.length)=H1 at*;generalize bB true*nbk (bB true) m1.length=I at*;generalize Q8 (bB true) m1=hl at*;rw[show bB true=128 from rfl]at bo a8;obtain⟨a1,n1,c1,rfl⟩:=qu ax;have cx:n1=hl.length:=yu ax;subst cx;have aP:=hid bG;have aq:=hid bo;have aZ:=hid bn;have bR:=hid bY;have aD:=hid b4;have bc:=hid aa;have aX:=hid ax;have am:wr.cell? ⟨p,10,none⟩=some (.slice a1 hl.length c1):=qd aa 10;have aN:wr.cell? ⟨p,11,none⟩=some (.int .i64 128):=qd aa 11;have ay:=frozen_of_row wr p 10 _ _ aa;have bP:=frozen_of_row wr p 11 _ _ aa;clear aa ax b4 bY bn bo bG az a6 cf hN;go_upto_region 1 with(fail)
  obtain⟨tb,aF⟩: ∃tb,((hl.length:Int)==128)=tb:=⟨_,rfl⟩;go_quiet (fail)
  go_upto_if 17 with(fail)
  go_cut [1] from 4 (fun b W=>b= .slice ab N cb∧qiM true w S p hv h0 m1 W)
  case first=>
   have av:Below wr.heap.size wr (wr.drewN nq):=QO nq;have ai:=qg bc.out av;have aw:=qk aX.out (fun g _ hg=>av.block g hg);have ad:Spare S w (wr.drewN nq):=ao.out.trans (Spare.of_below S av) (fun _ _ h=>h);clear av am aN ay bP;generalize wr.drewN nq=W2 at*
   cases tb
   case false=>
    have HT:=hid aF;clear aF;go_wp2
    go_meet
    case rel=>exact⟨rfl,H1,I,hl,_,ai,aw,by have:=beq_eq_false_iff_ne.1 HT.out;show hl.length<128;omega,aP.out,al.out,ad⟩
   have ah:hl.length=128:=by have:=eq_of_beq aF;omega
   clear aF;have bH:=hid ah;have b3:=aq.out ah;have bE:I+128<9223372036854775808:=by have:=aZ.out;omega
   have ca:=hid bE;rw[ah]at ai;clear ah a8 aq;have aq:=hid b3;have ac:=hid ai;have aH:=hid aw;have bX:=hid ad;clear b3 ai aw ad bE;have ck:p<W2.heap.size:=(Ai ac.out).1;go_upto_region 2 with(fail)
   refine Q9 (fun f W=>(f=false→Below W2.heap.size W2 W)∧(f=true→W.heap[p]? =some (.cells (zg H1 ((I+128:Nat):Int) (.slice a1 128 c1)) 283 (0,0))∧But p W2 W)) 16 [.v 19 (.pointer (some ⟨p,0,none⟩)),.v 20 (.pointer (some ⟨p,0,none⟩)),.v 21 (.pointer (some ⟨p,0,none⟩)),.v 22 (.pointer (some ⟨p,8,none⟩)),.v 23 (.agg #[.int .u64 (I:Nat),.int .u64 0]),.v 24 (.pointer (some ⟨p,0,none⟩)),.v 25 (.pointer (some ⟨p,0,none⟩)),.v 26 (.pointer (some ⟨p,11,none⟩)),.v 27 (.int .i64 128),.v 28 (.int .u64 128),.v 29 (.tuple #[.agg #[.int .u64 ((I+128:Nat):Int),.int .u64 0],.bool false]),.v 18 (.tuple #[.agg #[.int .u64 ((I+128:Nat):Int),.int .u64 0],.bool false]),.v 30 (.agg #[.int .u64 ((I+128:Nat):Int),.int .u64 0]),.v 31 (.bool false),.v 32 (.pointer (some ⟨p,0,none⟩)),.v 33 (.pointer (some ⟨p,8,none⟩)),.f none [] (fun _ _=>True)] (by exact⟨fun _ _ _ _ h=>h,trivial⟩) ⟨fun _=>Br.drew,fun h=>(by cases h)⟩ (fun f W W' h O=>⟨fun e=>(h.1 e).trans (O.mono (h.1 e).size),fun e=>⟨qg (h.2 e).1 O,(h.2 e).2.trans (But.of_below O)⟩⟩) ?_ ?_ ?_
   ·repeat' (with_reducible first|exact qz|refine qx ?_ ?_)
    all_goals try
     refine .inr ?_;intro A x W f G Y hf o D K J;have a0:=G.2 0 (by decide);conv at a0=>rhs;whnf
     simp only[QN,QV]at D;clear o G;go_simp
     exact J _ _ BR rfl
    any_goals exact .inl rfl
    all_goals refine .inr ?_
    ·intro A x W f G Y hf o _ K J;have cC:=gw G o 3 22;clear o G;have aC:f=false:=hf (by kernel_rfl);have V:=qg ac.out (Y.1 aC);refine qX 281 _ rfl p 8 cC 283 _ #[.int .u64 (I:Nat),.int .u64 0] (0,0) _ V Tryz.underlying281 rfl (by kernel_rfl) (qdn _ _ _) (J _ _ Br rfl)
    ·intro A x W f G Y hf o _ K J;have c8:=gw G o 7 26;clear o G;have aC:f=false:=hf (by kernel_rfl);have V:=qg ac.out (Y.1 aC);have c0:W.cell? ⟨p,11,none⟩=some (.int .i64 128):=qd V 11;go_simp
     exact J _ _ BR rfl
    ·intro A x W f G Y hf o _ K J;have dg:=gw G o 4 23;have cY:=gw G o 9 28;clear o G;go_simp
     refine(qdr I 128 ca.out _).mono ?_;rintro e w' ⟨rfl,O⟩;exact J _ _ O rfl
   ·intro A x W G Y o K J;have ct:=gw G o 15 33;have cq:=gw G o 12 30;clear o G;have V:=qg ac.out (Y.1 rfl);refine zR 281 _ _ rfl p 8 #[.int .u64 ((I+128:Nat):Int),.int .u64 0] ct cq 283 _ V (by kernel_rfl) (by simp[zg]) (by simp[Value.oneCell']) ?_;rw[qfy];refine J _ _ (fun _=>rfl) ⟨fun h=>(by cases h),fun _=>⟨setRow_heap _ _ _ _ _ _ V,(But.of_below (Y.1 rfl)).trans (But.of_setRow _ _ _)⟩⟩ ⟨.inr (fun _ h=>h),.inr (fun _ h=>h),.inr (fun _ h=>h),.inr (fun _ h=>h),.inr (fun _ h=>h),.inr (fun _ h=>h),.inr (fun _ h=>h),.inr (fun _ h=>h),.inr (fun _ h=>h),.inr (fun _ h=>h),.inr (fun _ h=>h),.inr (fun _ h=>h),.inr (fun _ h=>h),.inr (fun _ h=>h),.inr (fun _ h=>h),.inr (fun _ h=>h),.inl rfl,trivial⟩ trivial
   intro x W Y ak;obtain⟨ci, -⟩:=ak;simp only[QA,Act.put,Ls];obtain⟨bM,aQ⟩:=Y.2 rfl;have cN:=aQ.size;have bi:W.ownsRow 0 5 1 (.slice a1 128 c1) 128 (hl.map qt):=by
    have h1:=aH.out;rw[bH.out]at h1;exact Yc h1 aQ ac.out (by decide)
   have aT:Spare S w W:=bX.out.trans (Spare.of_but aQ) (fun b _ O=>by have h2:=HS.out;subst h2;exact O.1);have b9:Holds8 W (.slice a1 128 c1) hl:=Q0 bi;have ag:=hid bM;have cg:=hid bi;have bC:=hid aT;have bO:=hid b9;clear ci Y bM aQ bi aT b9 x ac aH bX cN ck;generalize W=W3 at*;clear W2;go_upto_region 3 with(fail)
   obtain⟨H2,bp⟩:=Ex (yq true H1 hl ((I+128:Nat):Int) false false);have b0:Words 64 8 H2:=by rw[←bp];exact QQ true aD.out _ _ _ _
   have aY:=qd6 H1 hl aD.out (.slice a1 128 c1) (I+128) (by have:=ca.out;omega) false false;have aJ:=aq.out;rw[bp]at aY aJ;have cd:=hid aY;have cl:=hid aJ;have a5:=hid b0;clear aY bp aJ b0 aq;have cn:p<W3.heap.size:=(Ai ag.out).1;refine qD (n:=18) (w0:=W3) (B:=W3.heap.size) [.v 34 (.pointer (some ⟨p,0,none⟩)),.v 35 (.pointer (some ⟨p,0,none⟩)),.v 36 (.pointer (some ⟨p,0,none⟩)),.v 37 (.pointer (some ⟨p,12,none⟩)),.v 38 (.func (.func 184) #[] #[]),.v 39 (.pointer (some ⟨p,0,none⟩)),.v 40 (.pointer (some ⟨p,0,none⟩)),.v 41 (.pointer (some ⟨p,0,none⟩)),.v 42 (.agg (qi .u64 H1)),.v 43 (.pointer (some ⟨p,0,none⟩)),.v 44 (.pointer (some ⟨p,0,none⟩)),.v 45 (.pointer (some ⟨p,10,none⟩)),.v 46 (.slice a1 128 c1),.v 47 (.pointer (some ⟨p,0,none⟩)),.v 48 (.pointer (some ⟨p,0,none⟩)),.v 49 (.pointer (some ⟨p,8,none⟩)),.v 50 (.agg #[.int .u64 ((I+128:Nat):Int),.int .u64 0]),.v 51 (.agg (qi .u64 H2))] trivial Br.drew Nl ?_ ?_
   ·repeat' (with_reducible first|exact qz|refine qx ?_ ?_)
    all_goals try
     intro A x W G hW an o D K J;have a0:=G.2 0 (by decide);conv at a0=>rhs;whnf
     simp only[QN,QV]at D;clear o G;go_simp
     exact J _ _ BR rfl
    ·intro A x W G hW an o _ K J;have dd:=gv G o 3 37;clear o G;have V:=qg ag.out hW;have c0:W.cell? ⟨p,12,none⟩=some (.func (.func 184) #[] #[]):=qd V 12;go_simp
     exact J _ _ BR rfl
    ·intro A x W G hW an o _ K J;have co:=gv G o 7 41;clear o G;have V:=qg ag.out hW;refine qX 274 _ rfl p 0 co 283 _ (qi .u64 H1) (0,0) _ V Tryz.underlying274 rfl (by rw[qf,aD.out.1];kernel_rfl) (qhN aD.out _ _) (J _ _ Br rfl)
    ·intro A x W G hW an o _ K J;have c4:=gv G o 11 45;clear o G;have V:=qg ag.out hW;have c0:W.cell? ⟨p,10,none⟩=some (.slice a1 128 c1):=qd V 10;go_simp
     exact J _ _ BR rfl
    ·intro A x W G hW an o _ K J;have cA:=gv G o 15 49;clear o G;have V:=qg ag.out hW;refine qX 281 _ rfl p 8 cA 283 _ #[.int .u64 ((I+128:Nat):Int),.int .u64 0] (0,0) _ V Tryz.underlying281 rfl (by kernel_rfl) (qdn _ _ _) (J _ _ Br rfl)
    ·intro A x W G hW an o _ K J;have dc:=gv G o 4 38;have di:=gv G o 8 42;have de:=gv G o 12 46;have dh:=gv G o 16 50;clear o G;go_simp
     refine(cd.out _ (bO.out.mono_below hW Nl) bR.out bH.out).mono ?_;rintro e w' ⟨rfl,O⟩;exact J _ _ O rfl
   intro x W hW an ak;clear ak;refine qp ?_;simp only[QA,Act.put,Ls];have bq:=qg ag.out hW;have cc:But p W3 W:=But.of_below hW;clear hW an x;go_wp2_with fail
   refine qp ?_;go_wp2_with fail
   refine qp ?_;refine zn rfl 274 _ _ rfl p 0 (qi .u64 H2) rfl rfl 283 _ bq (by rw[qf,a5.out.1];kernel_rfl) (by rw[qf,a5.out.1];simp[zg]) qA ?_;rw[qgP a5.out];refine qv ?_;have aB:=setRow_heap W p _ (zg H2 ((I+128:Nat):Int) (.slice a1 128 c1)) _ _ bq;have bd:=cc.trans (But.of_setRow W p (zg H2 ((I+128:Nat):Int) (.slice a1 128 c1)));generalize W.setRow p (zg H2 ((I+128:Nat):Int) (.slice a1 128 c1))=W5 at*;have bI:=Yc cg.out bd ag.out (by decide);have be:Spare S w W5:=bC.out.trans (Spare.of_but bd) (fun b _ O=>by have h2:=HS.out;subst h2;exact O.1);have bl:=hid bI;have cv:=hid be;have bU:=hid aB;clear bq cc bd bI be cd cg bC ag bO W cn W3;obtain⟨g1,rfl⟩:=ZX bl.out (by decide);obtain⟨cu, -, -, -, -,aA,bf⟩:=zw bl.out;have b6:(c1:Int)≤9223372036854775807:=by unfold maxLen at bf;omega
   have a9:128≤(c1:Int):=by omega
   have am:W5.cell? ⟨p,10,none⟩=some (.slice (some ⟨g1,0,none⟩) 128 c1):=qd aB 10;have ay:=frozen_of_row W5 p 10 _ _ aB;have cT:p<W5.heap.size:=(Ai aB).1;clear aB bf;go_wp2
   go_meet
   case rel=>
    have aj:But p W5 (W5.setCell ⟨p,10,none⟩ (.slice (some ⟨g1,0,none⟩) 0 c1)):=(But.refl p W5).set 10 _;exact⟨rfl,H2,I+128,[],.slice (some ⟨g1,0,none⟩) 0 c1,heap_setCell_same W5 p 10 _ _ _ bU.out,qd1 (Yc bl.out aj bU.out (by decide)),by show 0<128;decide,cl.out,al.out,cv.out.trans (Spare.of_but aj) (fun b _ O=>by have h2:=HS.out;subst h2;exact O.1)⟩
  case rest=>
   clear am aN ay bP aF tb nq bc aX aD bR aZ aq aP a8 bu;obtain⟨rfl,H2,bQ,q,dj,au,aR,ba,br,bt,ad⟩:=hcut;have cj:=ao;clear al ao;simp only[cond]at au;have cS:q.length<128:=ba;obtain⟨a2,n2,c2,rfl⟩:=qu aR;obtain rfl:n2=q.length:=yu aR;obtain⟨k,hk⟩:=Ex (min N (128 - q.length));have HK:=hid hk;have ac:=hid au;have aH:=hid aR;have aP:=hid br;have al:=hid bt;have ao:=hid ad;clear hk aR br bt ad ba;have am:wc.cell? ⟨p,10,none⟩=some (.slice a2 q.length c2):=qd au 10;have aN:wc.cell? ⟨p,11,none⟩=some (.int .i64 128):=qd au 11;have cr:p<wc.heap.size:=(Ai au).1;clear au;go_upto_region 5 with(fail)
   go_quiet (fail)
   rw[show min (N:Int) (128 - (q.length:Int))=(k:Int) from by have:=HK.out;omega];have aj:Below wc.heap.size wc (wc.drewN nq):=QO nq;have bg:=qg ac.out aj;have b7:=qk aH.out (fun g _ hg=>aj.block g hg);have aL:Spare S w (wc.drewN nq):=ao.out.trans (Spare.of_below S aj) (fun _ _ h=>h);clear aj am aN ac aH ao cr;generalize wc.drewN nq=W6 at*;clear wc;have bw:Hold W6 (.slice ab N cb) (U.drop j):=by
    have h1:=HH.out;have h2:=cO.out;have Z:=aS.out;rw[HN.out]at h2 Z;exact zd h2 HH.out Z cj.out aL (fun b O=>by have h4:=HS.out;subst h4;exact HF.out (fun e=>by rw[e]at af;simp at af) b O) (fun e=>by rw[e]at af;simp at af)
   obtain⟨X,hX⟩:=Ex ((U.drop j).take k);have aA:1≤k∧k≤N∧q.length+k≤128:=by have:=HK.out;omega
   have a7:X.length=k:=by rw[←hX,List.length_take,HN.out];omega
   have bj:Hold W6 (.slice ab k cb) X:=by rw[←hX];exact qcx bw (by rw[HN.out];omega)
   have bk:=bj.src;rw[a7]at bk;have HX:=hid hX;have aU:=hid a7;have da:=hid bj;have cP:=hid bk;have bF:=hid bw;have bW:=hid bg;have cL:=hid b7;have aK:=hid aL;have cW:p<W6.heap.size:=(Ai bg).1;obtain⟨aA,bf,b6⟩:=aA;have a9:(k:Int)≤N∧(k:Int)≤cb∧1≤(k:Int):=by omega
   obtain⟨a9,df,c6⟩:=a9;clear hX a7 bj bk bw bg b7 aL;go_upto_region 6 with(fail)
   refine yC (n:=9) (fun f W=>(f=false→Below W6.heap.size W6 W)∧(f=true→W.heap[p]? =some (.cells (zg H2 ((bQ:Nat):Int) (.slice a2 q.length c2)) 283 (0,0))∧Spare (fun b=>(Value.slice a2 q.length c2).ownBlock≠some b) W6 W)) 8 [.v 75 (.pointer (some ⟨p,0,none⟩)),.v 76 (.pointer (some ⟨p,0,none⟩)),.v 77 (.pointer (some ⟨p,0,none⟩)),.v 78 (.pointer (some ⟨p,10,none⟩)),.v 79 (.slice a2 q.length c2),.v 80 (.slice ab N cb),.v 81 (.int .i64 (k:Nat)),.v 82 (.slice ab k cb),.p 83 (fun u W=>W.ownsRow 0 5 1 u (q.length+k) ((q++X).map qt)∧(u.ownBlock=(Value.slice a2 q.length c2).ownBlock∨ ∀g,u.ownBlock=some g→W6.heap.size≤g))] (by exact⟨(fun W W' O u h=>⟨qk h.1 (fun g _ hg=>O.block g hg),h.2⟩),trivial⟩) ⟨fun _=>Br.drew,fun h=>(by cases h)⟩ (fun f W W' h O=>⟨fun e=>(h.1 e).trans (O.mono (h.1 e).size),fun e=>⟨qg (h.2 e).1 O,(h.2 e).2.trans (Spare.of_below _ O) (fun _ _ h=>h)⟩⟩) ?_ ?_ ?_
   ·repeat' (with_reducible first|exact qz|refine qx ?_ ?_)
    all_goals try
     refine .inr ?_;intro A x W f G Y hf o D K J;have a0:=G.2 0 (by decide);conv at a0=>rhs;whnf
     have a1:=G.2 1 (by decide);conv at a1=>rhs;whnf
     have a4:=G.2 4 (by decide);conv at a4=>rhs;whnf
     simp only[QN,QV]at D;clear o G;go_simp
     exact J _ _ BR rfl
    any_goals exact .inl rfl
    all_goals refine .inr ?_
    ·intro A x W f G Y hf o _ K J;have cZ:=gw G o 3 78;clear o G;have aC:f=false:=hf (by kernel_rfl);have V:=qg bW.out (Y.1 aC);have c0:W.cell? ⟨p,10,none⟩=some (.slice a2 q.length c2):=qd V 10;go_simp
     exact J _ _ BR rfl
   ·intro A x W G Y o K J;have cw:=gw G o 4 79;have cH:=gw G o 7 82;clear o G;have hB:=Y.1 rfl;have ho:=qk cL.out (fun g _ hg=>hB.block g hg);have V:=qg bW.out hB;refine Yo _ _ 24 rfl 0 5 i0 (.int .u8 0) 1 Tryz.underlying24 hi cy cR cE rfl (.slice a2 q.length c2) q.length (q.map qt) cw ho (.slice ab k cb) k (X.map qt) cH (cP.out.below hB) (by unfold maxLen;omega) (by omega) (Nat.zero_le _) ?_;intro v' w' h1 h2 Z;have h4:w'.heap[p]? =some (.cells (zg H2 ((bQ:Nat):Int) (.slice a2 q.length c2)) 283 (0,0)):=(h2.block p (Ai V).1 (qc5 ho V (by decide))).trans V;rw[←List.map_append]at h1;refine J v' w' (fun h=>by cases h) ⟨fun h=>(by cases h),fun _=>⟨h4,(Spare.of_below _ hB).trans (Spare.of_grown h2) (fun _ _ h=>h)⟩⟩ ⟨.inr (fun _ h=>h),.inr (fun _ h=>h),.inr (fun _ h=>h),.inr (fun _ h=>h),.inr (fun _ h=>h),.inr (fun _ h=>h),.inr (fun _ h=>h),.inr (fun _ h=>h),.inl rfl,trivial⟩ ⟨h1,?_⟩;rcases Z with Z|Z
    ·exact .inl Z
    ·refine .inr fun g hg=>?_
     rw[Z]at hg;cases hg;exact hB.size
   intro x W Y ak;obtain⟨ar, -⟩:=ak;change ((fun u W=>W.ownsRow 0 5 1 u (q.length+k) ((q++X).map qt)∧(u.ownBlock=(Value.slice a2 q.length c2).ownBlock∨ ∀g,u.ownBlock=some g→W6.heap.size≤g))) (x 83) W at ar
   obtain⟨aE,aW⟩:=Y.2 rfl;obtain⟨aG,aM⟩:=ar;obtain⟨a3,n3,c3,ar⟩:=qu aG;rw[ar]at aG aM;obtain rfl:n3=q.length+k:=yu aG;refine qp ?_;simp only[QA,Act.put,Ls,ar];clear ar;have am:W.cell? ⟨p,10,none⟩=some (.slice a2 q.length c2):=qd aE 10;have ay:=frozen_of_row W p 10 _ _ aE;have cm:p<W.heap.size:=(Ai aE).1;have b5:=hid aE;have cB:=hid aG;have cI:=hid aM;have bm:=hid aW;clear aE aG aM aW Y;go_wp2_with fail
   refine qp ?_;go_wp2_with fail
   refine qp ?_;go_wp2_with fail
   refine qv ?_;obtain⟨bb,ob,rfl⟩:=qcy bF.out (fun e=>by have:=HN.out;rw[e]at this;simp at this;omega);have bx:But p W (W.setCell ⟨p,10,none⟩ (.slice a3 (q.length+k) c3)):=(But.refl p W).set 10 _;have cD:=hid (heap_setCell_same W p 10 _ _ (.slice a3 (q.length+k) c3) b5.out);have cF:=hid (Yc cB.out bx b5.out (by decide));have aI:Spare S w (W.setCell ⟨p,10,none⟩ (.slice a3 (q.length+k) c3)):=by
    refine(aK.out.trans bm.out ?_).trans (Spare.of_but bx) (fun b _ O=>by have h2:=HS.out;subst h2;exact O.1);intro b db av;have h2:=HS.out;subst h2;rcases al.out with Z|Z
    ·rw[Z];exact av.2
    ·intro e;have:=Z b e;omega
   have bJ:Hold (W.setCell ⟨p,10,none⟩ (.slice a3 (q.length+k) c3)) (.slice (some ⟨bb,ob,none⟩) N cb) (U.drop j):=by
    have Z:=aS.out;exact zd bF.out HH.out Z aK.out aI (fun b O=>by have h4:=HS.out;subst h4;exact HF.out (fun e=>by rw[e]at af;simp at af) b O) (fun e=>by rw[e]at af;simp at af)
   have bv:=hid aI;have cz:=hid bJ;clear bx aI bJ am ay cm;have cU:W6.heap.size≤(W.setCell ⟨p,10,none⟩ (.slice a3 (q.length+k) c3)).heap.size:=by have:=bm.out.size;simpa [World.setCell] using this
   generalize W.setCell ⟨p,10,none⟩ (.slice a3 (q.length+k) c3)=W8 at*;have bN:j+k≤U.length:=by have:=cK.out;have:=HN.out;omega
   have bT:QT true W8 p (.slice a3 (q.length+k) c3) h0 (ae++U.take (j+k)):=by
    have e0:ae++U.take (j+k)=m1++X:=by rw[←cp.out,←HX.out,List.append_assoc,List.take_add]
    obtain⟨e1,e2,e3⟩:=aP.out X (by rw[aU.out];omega) (by rw[aU.out];exact b6);rw[e0];unfold QT;rw[e1,e2,e3];exact⟨cD.out,(show(q++X).length=q.length+k by rw[List.length_append,aU.out])▸cF.out⟩
   have bV:(Value.slice a3 (q.length+k) c3).ownBlock=hv.ownBlock∨ ∀g,(Value.slice a3 (q.length+k) c3).ownBlock=some g→w.heap.size≤g:=by
    rcases cI.out with Z|Z
    ·rw[Z];exact al.out
    ·exact .inr fun g hg=>Nat.le_trans aK.out.size (Z g hg)
   have bA:=hid bT;have bz:=hid bV;have bK:=hid (fun(a':Option Addr) (n' c':Nat) (hn:n'=(U.drop j).length - k) (hc:c'=cb - k) (h:a'=some ⟨bb,ob+k,none⟩∨a'=some ⟨bb,ob,none⟩∧cb=k)=>(show Hold W8 (.slice a' n' c') (U.drop (j+k)) by rw[←List.drop_drop];exact qcz cz.out (k:=k) (by have:=HN.out;omega) hn hc bb ob rfl h));clear bT bV;by_cases b8:cb=k
   case pos=>
    have bh:=b8;go_wp2
    refine⟨⟨j+k,bN,bK.out _ _ _ (by rw[HN.out]) (by omega) (.inr ⟨rfl,bh⟩),aS.out,⟨_,bA.out,bz.out⟩,bv.out⟩,?_⟩;show N - k<N
    omega
   case neg=>
    have bh:=b8;go_wp2
    refine⟨⟨j+k,bN,bK.out _ _ _ (by rw[HN.out]) (by omega) (.inl rfl),aS.out,⟨_,bA.out,bz.out⟩,bv.out⟩,?_⟩;show N - k<N
    omega
theorem qah (h0 ae U:List Int)(hh:Words 32 8 h0)(hm: ∀z∈ae,0≤z∧z≤255)(p:Nat)(hv v:Value)(w:World)(hE:QT false w p hv h0 ae)(hH:Hold w v U)(hF:U≠[]→ ∀b,v.ownBlock=some b→zl p hv b)(cV:(ae.length:Int)+U.length≤140737488355328):
  Calls Tryz.prog 266 #[.pointer (some ⟨p,0,none⟩),v] w fun e w'=>e= .returned (.tuple #[])∧(∃ap,QT false w' p ap h0 (ae++U)∧(ap.ownBlock=hv.ownBlock∨ ∀g,ap.ownBlock=some g→w.heap.size≤g))∧Spare (zl p hv) w w':=by
 obtain⟨i0,hi,cy,cR,cE⟩:=info_parts QD;have c5:p<w.heap.size:=(Ai hE.1).1;have cG:=hid hh;have cJ:=hid hm;have HE:=hid hE;have HH:=hid hH;have HF:=hid hF;have bZ:=hH.1;have HZ:=hid bZ;clear hh hm hE hH hF bZ;obtain⟨S,hS⟩:=Ex (zl p hv);have HS:=hid hS;rw[hS];clear hS;go_enter Tryz.func266,Tryz.ntmps266
 go_wp2_with fail
 go_loopw [1] (fun b wr=> ∃j:Nat,j≤U.length∧Hold wr b (U.drop j)∧b.ownBlock=v.ownBlock∧(∃ap,QT false wr p ap h0 (ae++U.take j)∧(ap.ownBlock=hv.ownBlock∨ ∀g,ap.ownBlock=some g→w.heap.size≤g))∧Spare S w wr) (fun b _=>lenV b)
 case atStart=>exact⟨0,Nat.zero_le _,by simpa using HH.out,rfl,⟨hv,by simpa using HE.out,.inl rfl⟩,Spare.refl _ _⟩
 case round=>
  obtain⟨j,hj,aV,bD,⟨cQ,ce,aO⟩,bL⟩:=hrel;have cO:=hid aV;have ao:=hid bL;have bu:=hid ce;have aS:=hid bD;have al:=hid aO;obtain⟨ab,cb,rfl,ch,cX⟩:=aV.slice;clear aV bL ce bD aO;by_cases af:j<U.length
  case neg=>
   obtain rfl:j=U.length:=by omega
   have aA:(U.drop U.length).length=0:=by simp
   rw[aA]at*;go_wp2
   go_end0
   have h1:=bu.out;rw[List.take_length]at h1;exact⟨rfl,⟨cQ,h1,al.out⟩,ao.out⟩
  have cf:(U.drop j).length=U.length - j:=by simp
  have cM:0<(U.drop j).length:=by omega
  have q:((U.drop j).length:Int)≤140737488355328:=by omega
  obtain⟨m1,az⟩:=Ex (ae++U.take j);have c7:m1.length≤140737488355328:=by rw[←az];simp;omega
  have a6: ∀z∈m1,0≤z∧z≤255:=by
   rw[←az];intro z hz;rcases List.mem_append.1 hz with hz|hz
   ·exact cJ.out z hz
   ·exact HZ.out z (List.mem_of_mem_take hz)
  have c9:=hid a6;have cK:=hid cf;have bS:=bu.out;rw[az]at bS;have cp:=hid az;obtain⟨N,hN⟩:=Ex ((U.drop j).length);rw[hN]at cM q ch⊢;have HN:=hid hN;have bn:=JF (YB false) m1;have bG:=qcr false h0 m1;have bo:=qcs false h0 m1;have a8:=Z3 (YB false) m1;have bY:=Y5 (n:=bB false) a6;have b4:=yN false cG.out m1 (nbk (bB false) m1.length);obtain⟨aa,ax⟩:=bS;simp only[cond]at aa;generalize stZ false h0 m1 (nbk (bB false) m1.length)=H1 at*;generalize bB false*nbk (bB false) m1.length=I at*;generalize Q8 (bB false) m1=hl at*;rw[show bB false=64 from rfl]at bo a8;obtain⟨a1,n1,c1,rfl⟩:=qu ax;have cx:n1=hl.length:=yu ax;subst cx;have aP:=hid bG;have aq:=hid bo;have aZ:=hid bn;have bR:=hid bY;have aD:=hid b4;have bc:=hid aa;have aX:=hid ax;have am:wr.cell? ⟨p,10,none⟩=some (.slice a1 hl.length c1):=qd aa 10;have aN:wr.cell? ⟨p,11,none⟩=some (.int .i64 64):=qd aa 11;have ay:=frozen_of_row wr p 10 _ _ aa;have bP:=frozen_of_row wr p 11 _ _ aa;clear aa ax b4 bY bn bo bG az a6 cf hN;go_upto_region 1 with(fail)
  obtain⟨tb,aF⟩: ∃tb,((hl.length:Int)==64)=tb:=⟨_,rfl⟩;go_quiet (fail)
  go_upto_if 17 with(fail)
  go_cut [1] from 4 (fun b W=>b= .slice ab N cb∧qiM false w S p hv h0 m1 W)
  case first=>
   have av:Below wr.heap.size wr (wr.drewN nq):=QO nq;have ai:=qg bc.out av;have aw:=qk aX.out (fun g _ hg=>av.block g hg);have ad:Spare S w (wr.drewN nq):=ao.out.trans (Spare.of_below S av) (fun _ _ h=>h);clear av am aN ay bP;generalize wr.drewN nq=W2 at*
   cases tb
   case false=>
    have HT:=hid aF;clear aF;go_wp2
    go_meet
    case rel=>exact⟨rfl,H1,I,hl,_,ai,aw,by have:=beq_eq_false_iff_ne.1 HT.out;show hl.length<64;omega,aP.out,al.out,ad⟩
   have ah:hl.length=64:=by have:=eq_of_beq aF;omega
   clear aF;have bH:=hid ah;have b3:=aq.out ah;have bE:I+64<9223372036854775808:=by have:=aZ.out;omega
   have ca:=hid bE;rw[ah]at ai;clear ah a8 aq;have aq:=hid b3;have ac:=hid ai;have aH:=hid aw;have bX:=hid ad;clear b3 ai aw ad bE;have ck:p<W2.heap.size:=(Ai ac.out).1;go_upto_region 2 with(fail)
   refine Q9 (fun f W=>(f=false→Below W2.heap.size W2 W)∧(f=true→W.heap[p]? =some (.cells (zf H1 ((I+64:Nat):Int) (.slice a1 64 c1)) 291 (0,0))∧But p W2 W)) 16 [.v 19 (.pointer (some ⟨p,0,none⟩)),.v 20 (.pointer (some ⟨p,0,none⟩)),.v 21 (.pointer (some ⟨p,0,none⟩)),.v 22 (.pointer (some ⟨p,8,none⟩)),.v 23 (.agg #[.int .u64 (I:Nat),.int .u64 0]),.v 24 (.pointer (some ⟨p,0,none⟩)),.v 25 (.pointer (some ⟨p,0,none⟩)),.v 26 (.pointer (some ⟨p,11,none⟩)),.v 27 (.int .i64 64),.v 28 (.int .u64 64),.v 29 (.tuple #[.agg #[.int .u64 ((I+64:Nat):Int),.int .u64 0],.bool false]),.v 18 (.tuple #[.agg #[.int .u64 ((I+64:Nat):Int),.int .u64 0],.bool false]),.v 30 (.agg #[.int .u64 ((I+64:Nat):Int),.int .u64 0]),.v 31 (.bool false),.v 32 (.pointer (some ⟨p,0,none⟩)),.v 33 (.pointer (some ⟨p,8,none⟩)),.f none [] (fun _ _=>True)] (by exact⟨fun _ _ _ _ h=>h,trivial⟩) ⟨fun _=>Br.drew,fun h=>(by cases h)⟩ (fun f W W' h O=>⟨fun e=>(h.1 e).trans (O.mono (h.1 e).size),fun e=>⟨qg (h.2 e).1 O,(h.2 e).2.trans (But.of_below O)⟩⟩) ?_ ?_ ?_
   ·repeat' (with_reducible first|exact qz|refine qx ?_ ?_)
    all_goals try
     refine .inr ?_;intro A x W f G Y hf o D K J;have a0:=G.2 0 (by decide);conv at a0=>rhs;whnf
     simp only[QN,QV]at D;clear o G;go_simp
     exact J _ _ BR rfl
    any_goals exact .inl rfl
    all_goals refine .inr ?_
    ·intro A x W f G Y hf o _ K J;have cC:=gw G o 3 22;clear o G;have aC:f=false:=hf (by kernel_rfl);have V:=qg ac.out (Y.1 aC);refine qX 281 _ rfl p 8 cC 291 _ #[.int .u64 (I:Nat),.int .u64 0] (0,0) _ V Tryz.underlying281 rfl (by kernel_rfl) (qdm _ _ _) (J _ _ Br rfl)
    ·intro A x W f G Y hf o _ K J;have c8:=gw G o 7 26;clear o G;have aC:f=false:=hf (by kernel_rfl);have V:=qg ac.out (Y.1 aC);have c0:W.cell? ⟨p,11,none⟩=some (.int .i64 64):=qd V 11;go_simp
     exact J _ _ BR rfl
    ·intro A x W f G Y hf o _ K J;have dg:=gw G o 4 23;have cY:=gw G o 9 28;clear o G;go_simp
     refine(qdr I 64 ca.out _).mono ?_;rintro e w' ⟨rfl,O⟩;exact J _ _ O rfl
   ·intro A x W G Y o K J;have ct:=gw G o 15 33;have cq:=gw G o 12 30;clear o G;have V:=qg ac.out (Y.1 rfl);refine zR 281 _ _ rfl p 8 #[.int .u64 ((I+64:Nat):Int),.int .u64 0] ct cq 291 _ V (by kernel_rfl) (by simp[zf]) (by simp[Value.oneCell']) ?_;rw[qfx];refine J _ _ (fun _=>rfl) ⟨fun h=>(by cases h),fun _=>⟨setRow_heap _ _ _ _ _ _ V,(But.of_below (Y.1 rfl)).trans (But.of_setRow _ _ _)⟩⟩ ⟨.inr (fun _ h=>h),.inr (fun _ h=>h),.inr (fun _ h=>h),.inr (fun _ h=>h),.inr (fun _ h=>h),.inr (fun _ h=>h),.inr (fun _ h=>h),.inr (fun _ h=>h),.inr (fun _ h=>h),.inr (fun _ h=>h),.inr (fun _ h=>h),.inr (fun _ h=>h),.inr (fun _ h=>h),.inr (fun _ h=>h),.inr (fun _ h=>h),.inr (fun _ h=>h),.inl rfl,trivial⟩ trivial
   intro x W Y ak;obtain⟨ci, -⟩:=ak;simp only[QA,Act.put,Ls];obtain⟨bM,aQ⟩:=Y.2 rfl;have cN:=aQ.size;have bi:W.ownsRow 0 5 1 (.slice a1 64 c1) 64 (hl.map qt):=by
    have h1:=aH.out;rw[bH.out]at h1;exact Yc h1 aQ ac.out (by decide)
   have aT:Spare S w W:=bX.out.trans (Spare.of_but aQ) (fun b _ O=>by have h2:=HS.out;subst h2;exact O.1);have b9:Holds8 W (.slice a1 64 c1) hl:=Q0 bi;have ag:=hid bM;have cg:=hid bi;have bC:=hid aT;have bO:=hid b9;clear ci Y bM aQ bi aT b9 x ac aH bX cN ck;generalize W=W3 at*;clear W2;go_upto_region 3 with(fail)
   obtain⟨H2,bp⟩:=Ex (yq false H1 hl ((I+64:Nat):Int) false false);have b0:Words 32 8 H2:=by rw[←bp];exact QQ false aD.out _ _ _ _
   have aY:=qct H1 hl aD.out (.slice a1 64 c1) (I+64) (by have:=ca.out;omega) false false;have aJ:=aq.out;rw[bp]at aY aJ;have cd:=hid aY;have cl:=hid aJ;have a5:=hid b0;clear aY bp aJ b0 aq;have cn:p<W3.heap.size:=(Ai ag.out).1;refine qD (n:=18) (w0:=W3) (B:=W3.heap.size) [.v 34 (.pointer (some ⟨p,0,none⟩)),.v 35 (.pointer (some ⟨p,0,none⟩)),.v 36 (.pointer (some ⟨p,0,none⟩)),.v 37 (.pointer (some ⟨p,12,none⟩)),.v 38 (.func (.func 187) #[] #[]),.v 39 (.pointer (some ⟨p,0,none⟩)),.v 40 (.pointer (some ⟨p,0,none⟩)),.v 41 (.pointer (some ⟨p,0,none⟩)),.v 42 (.agg (qi .u32 H1)),.v 43 (.pointer (some ⟨p,0,none⟩)),.v 44 (.pointer (some ⟨p,0,none⟩)),.v 45 (.pointer (some ⟨p,10,none⟩)),.v 46 (.slice a1 64 c1),.v 47 (.pointer (some ⟨p,0,none⟩)),.v 48 (.pointer (some ⟨p,0,none⟩)),.v 49 (.pointer (some ⟨p,8,none⟩)),.v 50 (.agg #[.int .u64 ((I+64:Nat):Int),.int .u64 0]),.v 51 (.agg (qi .u32 H2))] trivial Br.drew Nl ?_ ?_
   ·repeat' (with_reducible first|exact qz|refine qx ?_ ?_)
    all_goals try
     intro A x W G hW an o D K J;have a0:=G.2 0 (by decide);conv at a0=>rhs;whnf
     simp only[QN,QV]at D;clear o G;go_simp
     exact J _ _ BR rfl
    ·intro A x W G hW an o _ K J;have dd:=gv G o 3 37;clear o G;have V:=qg ag.out hW;have c0:W.cell? ⟨p,12,none⟩=some (.func (.func 187) #[] #[]):=qd V 12;go_simp
     exact J _ _ BR rfl
    ·intro A x W G hW an o _ K J;have co:=gv G o 7 41;clear o G;have V:=qg ag.out hW;refine qX 284 _ rfl p 0 co 291 _ (qi .u32 H1) (0,0) _ V Tryz.underlying284 rfl (by rw[qf,aD.out.1];kernel_rfl) (qhM aD.out _ _) (J _ _ Br rfl)
    ·intro A x W G hW an o _ K J;have c4:=gv G o 11 45;clear o G;have V:=qg ag.out hW;have c0:W.cell? ⟨p,10,none⟩=some (.slice a1 64 c1):=qd V 10;go_simp
     exact J _ _ BR rfl
    ·intro A x W G hW an o _ K J;have cA:=gv G o 15 49;clear o G;have V:=qg ag.out hW;refine qX 281 _ rfl p 8 cA 291 _ #[.int .u64 ((I+64:Nat):Int),.int .u64 0] (0,0) _ V Tryz.underlying281 rfl (by kernel_rfl) (qdm _ _ _) (J _ _ Br rfl)
    ·intro A x W G hW an o _ K J;have dc:=gv G o 4 38;have di:=gv G o 8 42;have de:=gv G o 12 46;have dh:=gv G o 16 50;clear o G;go_simp
     refine(cd.out _ (bO.out.mono_below hW Nl) bR.out bH.out).mono ?_;rintro e w' ⟨rfl,O⟩;exact J _ _ O rfl
   intro x W hW an ak;clear ak;refine qp ?_;simp only[QA,Act.put,Ls];have bq:=qg ag.out hW;have cc:But p W3 W:=But.of_below hW;clear hW an x;go_wp2_with fail
   refine qp ?_;go_wp2_with fail
   refine qp ?_;refine zn rfl 284 _ _ rfl p 0 (qi .u32 H2) rfl rfl 291 _ bq (by rw[qf,a5.out.1];kernel_rfl) (by rw[qf,a5.out.1];simp[zf]) qA ?_;rw[qgO a5.out];refine qv ?_;have aB:=setRow_heap W p _ (zf H2 ((I+64:Nat):Int) (.slice a1 64 c1)) _ _ bq;have bd:=cc.trans (But.of_setRow W p (zf H2 ((I+64:Nat):Int) (.slice a1 64 c1)));generalize W.setRow p (zf H2 ((I+64:Nat):Int) (.slice a1 64 c1))=W5 at*;have bI:=Yc cg.out bd ag.out (by decide);have be:Spare S w W5:=bC.out.trans (Spare.of_but bd) (fun b _ O=>by have h2:=HS.out;subst h2;exact O.1);have bl:=hid bI;have cv:=hid be;have bU:=hid aB;clear bq cc bd bI be cd cg bC ag bO W cn W3;obtain⟨g1,rfl⟩:=ZX bl.out (by decide);obtain⟨cu, -, -, -, -,aA,bf⟩:=zw bl.out;have b6:(c1:Int)≤9223372036854775807:=by unfold maxLen at bf;omega
   have a9:64≤(c1:Int):=by omega
   have am:W5.cell? ⟨p,10,none⟩=some (.slice (some ⟨g1,0,none⟩) 64 c1):=qd aB 10;have ay:=frozen_of_row W5 p 10 _ _ aB;have cT:p<W5.heap.size:=(Ai aB).1;clear aB bf;go_wp2
   go_meet
   case rel=>
    have aj:But p W5 (W5.setCell ⟨p,10,none⟩ (.slice (some ⟨g1,0,none⟩) 0 c1)):=(But.refl p W5).set 10 _;exact⟨rfl,H2,I+64,[],.slice (some ⟨g1,0,none⟩) 0 c1,heap_setCell_same W5 p 10 _ _ _ bU.out,qd1 (Yc bl.out aj bU.out (by decide)),by show 0<64;decide,cl.out,al.out,cv.out.trans (Spare.of_but aj) (fun b _ O=>by have h2:=HS.out;subst h2;exact O.1)⟩
  case rest=>
   clear am aN ay bP aF tb nq bc aX aD bR aZ aq aP a8 bu;obtain⟨rfl,H2,bQ,q,dj,au,aR,ba,br,bt,ad⟩:=hcut;have cj:=ao;clear al ao;simp only[cond]at au;have cS:q.length<64:=ba;obtain⟨a2,n2,c2,rfl⟩:=qu aR;obtain rfl:n2=q.length:=yu aR;obtain⟨k,hk⟩:=Ex (min N (64 - q.length));have HK:=hid hk;have ac:=hid au;have aH:=hid aR;have aP:=hid br;have al:=hid bt;have ao:=hid ad;clear hk aR br bt ad ba;have am:wc.cell? ⟨p,10,none⟩=some (.slice a2 q.length c2):=qd au 10;have aN:wc.cell? ⟨p,11,none⟩=some (.int .i64 64):=qd au 11;have cr:p<wc.heap.size:=(Ai au).1;clear au;go_upto_region 5 with(fail)
   go_quiet (fail)
   rw[show min (N:Int) (64 - (q.length:Int))=(k:Int) from by have:=HK.out;omega];have aj:Below wc.heap.size wc (wc.drewN nq):=QO nq;have bg:=qg ac.out aj;have b7:=qk aH.out (fun g _ hg=>aj.block g hg);have aL:Spare S w (wc.drewN nq):=ao.out.trans (Spare.of_below S aj) (fun _ _ h=>h);clear aj am aN ac aH ao cr;generalize wc.drewN nq=W6 at*;clear wc;have bw:Hold W6 (.slice ab N cb) (U.drop j):=by
    have h1:=HH.out;have h2:=cO.out;have Z:=aS.out;rw[HN.out]at h2 Z;exact zd h2 HH.out Z cj.out aL (fun b O=>by have h4:=HS.out;subst h4;exact HF.out (fun e=>by rw[e]at af;simp at af) b O) (fun e=>by rw[e]at af;simp at af)
   obtain⟨X,hX⟩:=Ex ((U.drop j).take k);have aA:1≤k∧k≤N∧q.length+k≤64:=by have:=HK.out;omega
   have a7:X.length=k:=by rw[←hX,List.length_take,HN.out];omega
   have bj:Hold W6 (.slice ab k cb) X:=by rw[←hX];exact qcx bw (by rw[HN.out];omega)
   have bk:=bj.src;rw[a7]at bk;have HX:=hid hX;have aU:=hid a7;have da:=hid bj;have cP:=hid bk;have bF:=hid bw;have bW:=hid bg;have cL:=hid b7;have aK:=hid aL;have cW:p<W6.heap.size:=(Ai bg).1;obtain⟨aA,bf,b6⟩:=aA;have a9:(k:Int)≤N∧(k:Int)≤cb∧1≤(k:Int):=by omega
   obtain⟨a9,df,c6⟩:=a9;clear hX a7 bj bk bw bg b7 aL;go_upto_region 6 with(fail)
   refine yC (n:=9) (fun f W=>(f=false→Below W6.heap.size W6 W)∧(f=true→W.heap[p]? =some (.cells (zf H2 ((bQ:Nat):Int) (.slice a2 q.length c2)) 291 (0,0))∧Spare (fun b=>(Value.slice a2 q.length c2).ownBlock≠some b) W6 W)) 8 [.v 75 (.pointer (some ⟨p,0,none⟩)),.v 76 (.pointer (some ⟨p,0,none⟩)),.v 77 (.pointer (some ⟨p,0,none⟩)),.v 78 (.pointer (some ⟨p,10,none⟩)),.v 79 (.slice a2 q.length c2),.v 80 (.slice ab N cb),.v 81 (.int .i64 (k:Nat)),.v 82 (.slice ab k cb),.p 83 (fun u W=>W.ownsRow 0 5 1 u (q.length+k) ((q++X).map qt)∧(u.ownBlock=(Value.slice a2 q.length c2).ownBlock∨ ∀g,u.ownBlock=some g→W6.heap.size≤g))] (by exact⟨(fun W W' O u h=>⟨qk h.1 (fun g _ hg=>O.block g hg),h.2⟩),trivial⟩) ⟨fun _=>Br.drew,fun h=>(by cases h)⟩ (fun f W W' h O=>⟨fun e=>(h.1 e).trans (O.mono (h.1 e).size),fun e=>⟨qg (h.2 e).1 O,(h.2 e).2.trans (Spare.of_below _ O) (fun _ _ h=>h)⟩⟩) ?_ ?_ ?_
   ·repeat' (with_reducible first|exact qz|refine qx ?_ ?_)
    all_goals try
     refine .inr ?_;intro A x W f G Y hf o D K J;have a0:=G.2 0 (by decide);conv at a0=>rhs;whnf
     have a1:=G.2 1 (by decide);conv at a1=>rhs;whnf
     have a4:=G.2 4 (by decide);conv at a4=>rhs;whnf
     simp only[QN,QV]at D;clear o G;go_simp
     exact J _ _ BR rfl
    any_goals exact .inl rfl
    all_goals refine .inr ?_
    ·intro A x W f G Y hf o _ K J;have cZ:=gw G o 3 78;clear o G;have aC:f=false:=hf (by kernel_rfl);have V:=qg bW.out (Y.1 aC);have c0:W.cell? ⟨p,10,none⟩=some (.slice a2 q.length c2):=qd V 10;go_simp
     exact J _ _ BR rfl
   ·intro A x W G Y o K J;have cw:=gw G o 4 79;have cH:=gw G o 7 82;clear o G;have hB:=Y.1 rfl;have ho:=qk cL.out (fun g _ hg=>hB.block g hg);have V:=qg bW.out hB;refine Yo _ _ 24 rfl 0 5 i0 (.int .u8 0) 1 Tryz.underlying24 hi cy cR cE rfl (.slice a2 q.length c2) q.length (q.map qt) cw ho (.slice ab k cb) k (X.map qt) cH (cP.out.below hB) (by unfold maxLen;omega) (by omega) (Nat.zero_le _) ?_;intro v' w' h1 h2 Z;have h4:w'.heap[p]? =some (.cells (zf H2 ((bQ:Nat):Int) (.slice a2 q.length c2)) 291 (0,0)):=(h2.block p (Ai V).1 (qc5 ho V (by decide))).trans V;rw[←List.map_append]at h1;refine J v' w' (fun h=>by cases h) ⟨fun h=>(by cases h),fun _=>⟨h4,(Spare.of_below _ hB).trans (Spare.of_grown h2) (fun _ _ h=>h)⟩⟩ ⟨.inr (fun _ h=>h),.inr (fun _ h=>h),.inr (fun _ h=>h),.inr (fun _ h=>h),.inr (fun _ h=>h),.inr (fun _ h=>h),.inr (fun _ h=>h),.inr (fun _ h=>h),.inl rfl,trivial⟩ ⟨h1,?_⟩;rcases Z with Z|Z
    ·exact .inl Z
    ·refine .inr fun g hg=>?_
     rw[Z]at hg;cases hg;exact hB.size
   intro x W Y ak;obtain⟨ar, -⟩:=ak;change ((fun u W=>W.ownsRow 0 5 1 u (q.length+k) ((q++X).map qt)∧(u.ownBlock=(Value.slice a2 q.length c2).ownBlock∨ ∀g,u.ownBlock=some g→W6.heap.size≤g))) (x 83) W at ar
   obtain⟨aE,aW⟩:=Y.2 rfl;obtain⟨aG,aM⟩:=ar;obtain⟨a3,n3,c3,ar⟩:=qu aG;rw[ar]at aG aM;obtain rfl:n3=q.length+k:=yu aG;refine qp ?_;simp only[QA,Act.put,Ls,ar];clear ar;have am:W.cell? ⟨p,10,none⟩=some (.slice a2 q.length c2):=qd aE 10;have ay:=frozen_of_row W p 10 _ _ aE;have cm:p<W.heap.size:=(Ai aE).1;have b5:=hid aE;have cB:=hid aG;have cI:=hid aM;have bm:=hid aW;clear aE aG aM aW Y;go_wp2_with fail
   refine qp ?_;go_wp2_with fail
   refine qp ?_;go_wp2_with fail
   refine qv ?_;obtain⟨bb,ob,rfl⟩:=qcy bF.out (fun e=>by have:=HN.out;rw[e]at this;simp at this;omega);have bx:But p W (W.setCell ⟨p,10,none⟩ (.slice a3 (q.length+k) c3)):=(But.refl p W).set 10 _;have cD:=hid (heap_setCell_same W p 10 _ _ (.slice a3 (q.length+k) c3) b5.out);have cF:=hid (Yc cB.out bx b5.out (by decide));have aI:Spare S w (W.setCell ⟨p,10,none⟩ (.slice a3 (q.length+k) c3)):=by
    refine(aK.out.trans bm.out ?_).trans (Spare.of_but bx) (fun b _ O=>by have h2:=HS.out;subst h2;exact O.1);intro b db av;have h2:=HS.out;subst h2;rcases al.out with Z|Z
    ·rw[Z];exact av.2
    ·intro e;have:=Z b e;omega
   have bJ:Hold (W.setCell ⟨p,10,none⟩ (.slice a3 (q.length+k) c3)) (.slice (some ⟨bb,ob,none⟩) N cb) (U.drop j):=by
    have Z:=aS.out;exact zd bF.out HH.out Z aK.out aI (fun b O=>by have h4:=HS.out;subst h4;exact HF.out (fun e=>by rw[e]at af;simp at af) b O) (fun e=>by rw[e]at af;simp at af)
   have bv:=hid aI;have cz:=hid bJ;clear bx aI bJ am ay cm;have cU:W6.heap.size≤(W.setCell ⟨p,10,none⟩ (.slice a3 (q.length+k) c3)).heap.size:=by have:=bm.out.size;simpa [World.setCell] using this
   generalize W.setCell ⟨p,10,none⟩ (.slice a3 (q.length+k) c3)=W8 at*;have bN:j+k≤U.length:=by have:=cK.out;have:=HN.out;omega
   have bT:QT false W8 p (.slice a3 (q.length+k) c3) h0 (ae++U.take (j+k)):=by
    have e0:ae++U.take (j+k)=m1++X:=by rw[←cp.out,←HX.out,List.append_assoc,List.take_add]
    obtain⟨e1,e2,e3⟩:=aP.out X (by rw[aU.out];omega) (by rw[aU.out];exact b6);rw[e0];unfold QT;rw[e1,e2,e3];exact⟨cD.out,(show(q++X).length=q.length+k by rw[List.length_append,aU.out])▸cF.out⟩
   have bV:(Value.slice a3 (q.length+k) c3).ownBlock=hv.ownBlock∨ ∀g,(Value.slice a3 (q.length+k) c3).ownBlock=some g→w.heap.size≤g:=by
    rcases cI.out with Z|Z
    ·rw[Z];exact al.out
    ·exact .inr fun g hg=>Nat.le_trans aK.out.size (Z g hg)
   have bA:=hid bT;have bz:=hid bV;have bK:=hid (fun(a':Option Addr) (n' c':Nat) (hn:n'=(U.drop j).length - k) (hc:c'=cb - k) (h:a'=some ⟨bb,ob+k,none⟩∨a'=some ⟨bb,ob,none⟩∧cb=k)=>(show Hold W8 (.slice a' n' c') (U.drop (j+k)) by rw[←List.drop_drop];exact qcz cz.out (k:=k) (by have:=HN.out;omega) hn hc bb ob rfl h));clear bT bV;by_cases b8:cb=k
   case pos=>
    have bh:=b8;go_wp2
    refine⟨⟨j+k,bN,bK.out _ _ _ (by rw[HN.out]) (by omega) (.inr ⟨rfl,bh⟩),aS.out,⟨_,bA.out,bz.out⟩,bv.out⟩,?_⟩;show N - k<N
    omega
   case neg=>
    have bh:=b8;go_wp2
    refine⟨⟨j+k,bN,bK.out _ _ _ (by rw[HN.out]) (by omega) (.inl rfl),aS.out,⟨_,bA.out,bz.out⟩,bv.out⟩,?_⟩;show N - k<N
    omega
end Go.Proofs.YthjoojnlnlmljaaGreat
