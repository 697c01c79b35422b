/- Parts of rows: loaded, stored; noughts appended where there is room. No condition. -/
import Derived.Test.YthjoojnlnlmljaaGreatF15
import Derived.Laws.CopyRow
import Derived.Laws.MakeOwn
import Derived.Test.YthjoojnlnlmljaaGreatF20
import Derived.Laws.Externs
import Derived.Test.YthjoojnlnlmljaaGreatF17
import Derived.Test.YthjoojnlnlmljaaGreatF16
set_option linter.all false
set_option maxRecDepth 100000
set_option maxHeartbeats 8000000
namespace Go.Proofs.YthjoojnlnlmljaaGreat
open Go Go.ChangeShapes Go.WideShapes Go.ChangeAt Go.RowKit Go.Joins Go.Shelf Go.Maps
open Go.Lib (hid)
theorem JB {P:Program}(w:World)(t Y ty e:TypeId)(k:IntKind)(i:TypeInfo)(z:Value)(ht:P.underlying t=some (.slice e))(J:P.underlying Y=some (.int k))(hi:P.info? e=some i)(hz:i.zero=some z)(G:i.size=1)(V:z.cells= #[z])
  (g n I m:Nat) (D:Array Value) (hg:w.heap[g]? =some (.cells D e (0,0))) (o:n+m≤I) (O:n+m≤D.size) (hm:(m:Int)<9223372036854775808) (hb:(m:Int)*i.bytes≤281474976710656) (h1:z.oneCell'=true):
  (Builtin.append_ #[t,Y] ty #[.slice (some ⟨g,0,none⟩) n I,.int .i64 (m:Int)]).run P w=
   .ok (.slice (some ⟨g,0,none⟩) (n+m) I) (w.setRow g (D.toList.take n++List.replicate m z++D.toList.drop (n+m)).toArray):=by
 have hw:IntKind.i64.wrap (m:Int)=(m:Int):=by rw[IntKind.wrap_i64];omega
 have aa: ¬(m:Int)<0:=by omega
 have X: ¬(m:Int)*(i.bytes:Int)>281474976710656:=by omega
 have q:=run_storeCells_at P g n e (List.replicate m z) 0 D w hg (by simpa using O) (fun v hv=>by rw[List.eq_of_mem_replicate hv];exact h1);simp only[Nat.add_zero,List.length_replicate]at q;by_cases h0:m=0
 ·subst h0;simp only[List.replicate_zero]at q⊢;have Z:IntKind.i64.wrap 0=0:=rfl;simp only[Nat.add_zero]at o;simp[Builtin.append_,run_underlying ht,run_underlying J,sizeOf,typeInfo,hi,G,asInt,asIntOf,Z,o,Addr.add_lit]at q⊢
  rw[q];rfl
 ·have U:(Builtin.zeroCells #[z] m).toList=List.replicate m z:=by
   simp[Builtin.zeroCells,Nat.mod_one]
   apply List.ext_getElem?
   intro j;simp only[List.getElem?_map,List.getElem?_range',List.getElem?_replicate];by_cases hj:j<m<;>simp[hj,Nat.mod_one]
  simp[Builtin.append_,run_underlying ht,run_underlying J,sizeOf,typeInfo,hi,G,asInt,asIntOf,hw,aa,X,o,h0,zeroValue,hz,V,U,Addr.add_lit,q]
theorem jl {P:Program}{w:World}{ops:Array Oper}{o:Oper}{l:List Oper}{a:Act}{Q:Exit→Act→World→Prop}(Y:o.guard=none)(s x:Operand)(t J:TypeId)
  (ho:o.op= .call { callee:= .builtin .append,args:= #[s,x],argTypes:= #[t,J] }) (e:TypeId) (k:IntKind) (i:TypeInfo) (z:Value) (ht:P.underlying t=some (.slice e)) (X:P.underlying J=some (.int k)) (hi:P.info? e=some i) (hz:i.zero=some z) (I:i.size=1) (V:z.cells= #[z])
  (g n D m:Nat) (q:Array Value) (hs:a.eval s= .slice (some ⟨g,0,none⟩) n D) (hx:a.eval x= .int .i64 (m:Int)) (hg:w.heap[g]? =some (.cells q e (0,0))) (G:n+m≤D) (O:n+m≤q.size) (hm:(m:Int)<9223372036854775808) (hb:(m:Int)*i.bytes≤281474976710656) (h1:z.oneCell'=true)
  (h:wpList P ops Q l (a.put o.dst (.slice (some ⟨g,0,none⟩) (n+m) D)) (w.setRow g (q.toList.take n++List.replicate m z++q.toList.drop (n+m)).toArray)):wpList P ops Q (o::l) a w:=by
 refine wpList_plain Y fun K Z=>?_
 have U:=JB (P:=P) w t J o.type e k i z ht X hi hz I V g n D m q hg G O hm hb h1;unfold Oper.wp execOp;simp only[ho,resolve,invoke,builtin,Sem.run_bind,Sem.run_pure,Result.andThen_ok,List.map_toArray,List.map_cons,List.map_nil,hs,hx,U];exact Z _ _ h
def zf (cur:Array Value)(o:Nat)(cells:Array Value):Array Value:=(cur.toList.take o++cells.toList++cur.toList.drop (o+cells.size)).toArray
theorem jU {P:Program}(w:World)(g off:Nat)(t D:TypeId)(q o:Array Value)(U:w.heap[g]? =some (.cells q t (0,0)))(G:(P.info? D).map (·.size)=some o.size)
  (O:off+o.size≤q.size) (V:o.all (·.oneCell')=true):
  (storeVar D ⟨g,off,none⟩ (.agg o)).run P w= .ok () (w.setRow g (zf q off o)):=by
 have:=run_storeCells_at P g off t o.toList 0 q w U (by simpa using O) (fun v I=>(Array.all_eq_true_iff_forall_mem.1 V) v (by simpa using I))
 cases hq:P.info? D with
 | none=>simp[hq]at G
 | some i=>
  have J:o.size=i.size:=by simp[hq]at G;omega
  simp only[Nat.add_zero,Array.length_toList]at this;simp[storeVar,sizeOf,typeInfo,hq,Value.cells,J,zf]at this⊢
  exact this
theorem zD {P:Program}{o:Oper}{a:Act}{w:World}{K:Act→World→Prop}{Q:Exit→Act→World→Prop}(I:TypeId)(x y:Operand)(O:o.op= .store I x y)
  (g off:Nat) (q:Array Value) (X:a.eval x= .pointer (some ⟨g,off,none⟩)) (V:a.eval y= .agg q)
  (t:TypeId) (D:Array Value) (J:w.heap[g]? =some (.cells D t (0,0))) (Y:(P.info? I).map (·.size)=some q.size)
  (G:off+q.size≤D.size) (U:q.all (·.oneCell')=true)
  (h:K (a.put o.dst undef) (w.setRow g (zf D off q))):o.wp P a w K Q:=by
 unfold Oper.wp execOp;simp only[O,X,V,Instr.storeAt,Instr.sureAddr,Sem.run_bind,Sem.run_pure,Result.andThen_ok,jU w g off t I D q J Y G U];exact h
theorem Y9 {P:Program}{ops:Array Oper}{G:List Oper}{o:Oper}{a:Act}{w:World}{Q:Exit→Act→World→Prop}(O:o.guard=none)(J:TypeId)(x y:Operand)(X:o.op= .store J x y)
  (g off:Nat) (q:Array Value) (hx:a.eval x= .pointer (some ⟨g,off,none⟩)) (Z:a.eval y= .agg q)
  (t:TypeId) (D:Array Value) (V:w.heap[g]? =some (.cells D t (0,0))) (hi:(P.info? J).map (·.size)=some q.size)
  (I:off+q.size≤D.size) (Y:q.all (·.oneCell')=true)
  (h:wpList P ops Q G (a.put o.dst undef) (w.setRow g (zf D off q))):wpList P ops Q (o::G) a w:=
 wpList_plain O fun _ U=>zD J x y X g off q hx Z t D V hi I Y (U _ _ h)
theorem JA {P:Program}(w:World)(g off:Nat)(t o:TypeId)(q cs:Array Value)(fr:Nat×Nat)(d:TypeDesc)(U:w.heap[g]? =some (.cells q t fr))
  (V:P.underlying o=some d) (hd:(match d with| .struct _| .array _ _=>true|_=>false)=true) (O:(P.info? o).map (·.size)=some cs.size) (Z: ∀j,j<cs.size→q[off+j]? =cs[j]?):
  (loadVar o ⟨g,off,none⟩).run P w= .ok (.agg cs) w:=by
 have J:(loadCells ⟨g,off,none⟩ cs.toList.length).run P w= .ok cs.toList.toArray w:=
  run_loadCells_list (P:=P) w ⟨g,off,none⟩ cs.toList (fun j v I=>by
   have Y:j<cs.size:=by have:=(List.getElem?_eq_some_iff.1 I).1;simpa using this
   have G:(⟨g,off,none⟩:Addr).add j=⟨g,off+j,none⟩:=by unfold Addr.add;split<;>simp_all
   rw[G,cell_of_row w g (off+j) q t fr U,Z j Y];simpa using I)
 cases hq:P.info? o with
 | none=>simp[hq]at O
 | some i=>
  have X:i.size=cs.size:=by simpa [hq] using O
  have D:(isAgg o).run P w= .ok true w:=by
   unfold isAgg;rw[Sem.run_bind,run_underlying V w]
   cases d<;>simp_all
  simp only[Array.length_toList,Array.toArray_toList]at J;simp[loadVar,Sem.run_bind,D,sizeOf,typeInfo,hq,X,J]
theorem qV {P:Program}{o:Oper}{a:Act}{w:World}{K:Act→World→Prop}{Q:Exit→Act→World→Prop}(D:TypeId)(x:Operand)(I:o.op= .load D x)
  (g off:Nat) (V:a.eval x= .pointer (some ⟨g,off,none⟩)) (t:TypeId) (q cs:Array Value) (fr:Nat×Nat) (d:TypeDesc) (G:w.heap[g]? =some (.cells q t fr))
  (J:P.underlying D=some d) (U:(match d with| .struct _| .array _ _=>true|_=>false)=true) (X:(P.info? D).map (·.size)=some cs.size) (O: ∀j,j<cs.size→q[off+j]? =cs[j]?)
  (h:K (a.put o.dst (.agg cs)) w):o.wp P a w K Q:=by
 unfold Oper.wp execOp;simp only[I,V,Instr.loadAt,Instr.sureAddr,Sem.run_bind,Sem.run_pure,Result.andThen_ok,JA w g off t D q cs fr d G J U X O];exact h
theorem jA {P:Program}{w:World}{ops:Array Oper}{o:Oper}{l:List Oper}{a:Act}{Q:Exit→Act→World→Prop}(aa:o.guard=none)(s x:Operand)(t:TypeId)
  (ho:o.op= .call { callee:= .builtin .append,args:= #[s,x],argTypes:= #[t,t] }) (base:Nat) (e:TypeId) (i:TypeInfo) (Z:P.underlying t=some (.slice e)) (hi:P.info? e=some i) (U:i.size=1)
  (g n q:Nat) (J:List Value) (hs:a.eval s= .slice (some ⟨g,0,none⟩) n q) (G:w.ownsRow base e 1 (.slice (some ⟨g,0,none⟩) n q) n J)
  (u:Value) (m:Nat) (D:List Value) (hx:a.eval x=u) (X:SrcIs w u m D) (O:n+m≤q)
  (h: ∀w',w'.ownsRow base e 1 (.slice (some ⟨g,0,none⟩) (n+m) q) (n+m) (J++D)→w.grownBy w' (some g)→wpList P ops Q l (a.put o.dst (.slice (some ⟨g,0,none⟩) (n+m) q)) w'):wpList P ops Q (o::l) a w:=by
 refine wpList_plain aa fun K hK=>?_
 have Y: ∃w',(Builtin.append_ #[t,t] o.type #[.slice (some ⟨g,0,none⟩) n q,u]).run P w= .ok (.slice (some ⟨g,0,none⟩) (n+m) q) w'∧w'.ownsRow base e 1 (.slice (some ⟨g,0,none⟩) (n+m) q) (n+m) (J++D)∧w.grownBy w' (some g):=by
  obtain⟨h1,V,I⟩:=X;rcases I with⟨rfl,rfl⟩|⟨ad,c,rfl,I⟩
  ·obtain rfl:D=[]:=List.eq_nil_of_length_eq_zero h1;exact⟨w,by rw[Nat.add_zero];exact run_append_owned_none w base t o.type e i 1 Z hi _ n J G,by simpa using G,⟨rfl,rfl,rfl,Nat.le_refl _,fun _ _ _=>rfl⟩⟩
  ·exact run_append_fits w base t o.type e i 1 Z hi U g n q J G ad m c D (by omega) I V O
 obtain⟨w',hr,V,I⟩:=Y;unfold Oper.wp execOp;simp only[ho,resolve,invoke,builtin,Sem.run_bind,Sem.run_pure,Result.andThen_ok,List.map_toArray,List.map_cons,List.map_nil,hs,hx,hr];exact hK _ _ (h w' V I)
theorem zg {w:World}{base:Nat}{e:TypeId}{g n q m:Nat}{D:List Value}(h:w.ownsRow base e 1 (.slice (some ⟨g,0,none⟩) m q) n D):
  ∃o,w.heap[g]? =some (.cells o e (0,0))∧o.size=q∧o.toList.take n=D∧base≤g∧n≤q∧q≤maxLen:=by
 rcases h.2 with⟨h, -⟩|⟨Y,I,o,h,J,G,O,V,U,X⟩
 ·simp at h
 ·simp only[Value.slice.injEq,Option.some.injEq,Addr.mk.injEq,and_true,true_and]at h;obtain⟨rfl, -,rfl⟩:=h;exact⟨o,G,by simpa using U,by simpa using X,J,O,V⟩
theorem qaj {P:Program}(w:World)(base:Nat)(t O e:TypeId)(i:TypeInfo)(z:Value)(J:Nat)(Y:P.underlying t=some (.slice e))(Z:P.info? e=some i)(hz:i.zero=some z)
  (D:i.size=1) (aa:i.bytes=J) (ai:z.cells.size=1) (v:Value) (n:Nat) (X:List Value) (G:w.ownsRow base e 1 v n X)
  (u:Value) (m:Nat) (q:List Value) (ag:SrcIs w u m q) (ae:n+m≤maxLen) (I:(n+m)*J≤140737488355328) (ac:base≤w.heap.size):
  ∃v' w',(Builtin.append_ #[t,t] O #[v,u]).run P w= .ok v' w'∧w'.ownsRow base e 1 v' (n+m) (X++q)∧w.grownBy w' v.ownBlock∧(v'.ownBlock=v.ownBlock∨v'.ownBlock=some w.heap.size):=by
 obtain⟨h1,h2,V⟩:=ag;rcases V with⟨rfl,rfl⟩|⟨ad,c,rfl,V⟩
 ·obtain rfl:q=[]:=List.eq_nil_of_length_eq_zero h1;exact⟨v,w,run_append_owned_none w base t O e i 1 Y Z v n X G,by simpa using G,⟨rfl,rfl,rfl,Nat.le_refl _,fun _ _ _=>rfl⟩,.inl rfl⟩
 ·obtain⟨v',w',hr,ho,hg, -⟩:=run_append_own (P:=P) w base t O e i z 1 J Y Z hz D aa ai (by omega) v n X G ad m c q (by omega) V h2 ae I ac;refine⟨v',w',hr,ho,hg,?_⟩;have aj:n+m≤9223372036854775807:=by simp only[maxLen]at ae;omega
  rcases G.2 with⟨rfl,rfl⟩|⟨g,U,af,rfl,am,ah,ao,al,an,ak⟩
  ·by_cases hm:m=0
   ·subst hm;obtain rfl:q=[]:=List.eq_nil_of_length_eq_zero h1;rcases ho.2 with⟨rfl, -⟩|⟨g,U,af,rfl, -⟩
    ·exact .inl rfl
    ·exfalso
     have o:(Builtin.append_ #[t,t] O #[.slice none 0 0,.slice (some ad) 0 c]).run P w= .ok (.slice none 0 0) w:=by
      simp[Builtin.append_,run_underlying Y,sizeOf,typeInfo,Z,Builtin.lenOf,Builtin.firstCells,loadCells,loadCellsFrom]
     rw[hr]at o;injection o with e1
     cases e1
   ·have o:=run_append_nil (P:=P) w t O e i z Y Z hz ad m c q (by rw[D];omega) V (by omega) (by omega) (by rw[aa];have hb:=I;simp only[Nat.zero_add]at hb;omega);rw[hr]at o;injection o with e1
    subst e1;exact .inr rfl
  ·by_cases ab:n+m≤U
   ·have o:=run_append_room (P:=P) w t O e i Y Z g n U af ah ad m c q (by rw[D];omega) V h2 ab (by rw[D];omega);rw[hr]at o;injection o with e1
    subst e1;exact .inl rfl
   ·have holds: ∀j u,X[j]? =some u→w.cell? ((⟨g,0,none⟩:Addr).add j)=some u:=G.cells (g:=g) rfl;have o:=run_append_grow (P:=P) w t O e i z Y Z hz ⟨g,0,none⟩ n U X (by rw[D];exact G.1) holds ad m c q (by rw[D];omega) V (by omega) (by omega) (by rw[aa];exact growslice_fits (by omega) I);rw[hr]at o;injection o with e1
    subst e1;exact .inr rfl
theorem Yf {P:Program}{w:World}{o:Oper}{a:Act}{K:Act→World→Prop}{Q:Exit→Act→World→Prop}(s x:Operand)(t:TypeId)
  (ho:o.op= .call { callee:= .builtin .append,args:= #[s,x],argTypes:= #[t,t] }) (base:Nat)
  (e:TypeId) (i:TypeInfo) (z:Value) (q:Nat) (ht:P.underlying t=some (.slice e)) (hi:P.info? e=some i) (hz:i.zero=some z)
  (J:i.size=1) (Z:i.bytes=q) (Y:z.cells.size=1) (v:Value) (n:Nat) (U:List Value) (hs:a.eval s=v) (O:w.ownsRow base e 1 v n U)
  (u:Value) (m:Nat) (D:List Value) (hx:a.eval x=u) (V:SrcIs w u m D) (X:n+m≤maxLen) (G:(n+m)*q≤140737488355328) (I:base≤w.heap.size)
  (h: ∀v' w',w'.ownsRow base e 1 v' (n+m) (U++D)→w.grownBy w' v.ownBlock→(v'.ownBlock=v.ownBlock∨v'.ownBlock=some w.heap.size)→K (a.put o.dst v') w'):o.wp P a w K Q:=by
 obtain⟨v',w',hr,h2,h3,h4⟩:=qaj (P:=P) w base t o.type e i z q ht hi hz J Z Y v n U O u m D V X G I;unfold Oper.wp execOp;simp only[ho,resolve,invoke,builtin,Sem.run_bind,Sem.run_pure,Result.andThen_ok,List.map_toArray,List.map_cons,List.map_nil,hs,hx,hr];exact h v' w' h2 h3 h4
end Go.Proofs.YthjoojnlnlmljaaGreat
namespace Go.Proofs.YthjoojnlnlmljaaGreat
open Go.ChangeShapes Go.WideShapes Go.ChangeAt Go.RowKit Go.Joins Go.Shelf Go.Maps
open Go.Lib (hid)
attribute [local go_sem] Oper.semAt_some
def Hold (w:World)(v:Value)(zs:List Int):Prop:=
 (∀z∈zs,0≤z∧z≤255)∧((zs=[]∧v= .slice none 0 0)∨ ∃ad cap,v= .slice (some ad) zs.length cap∧zs.length≤cap∧cap≤maxLen∧(zs=[]∨ ∃b off,ad=⟨b,off,none⟩∧Qm w b off zs))
theorem Hold.nil (w:World):Hold w (.slice none 0 0) []:=⟨(fun _ h=>by cases h),.inl ⟨rfl,rfl⟩⟩
theorem Hold.holds8 {w:World}{v:Value}{zs:List Int}(h:Hold w v zs):Holds8 w v zs:=by
 rcases h.2 with⟨rfl,rfl⟩|⟨D,q,rfl,I,G,o⟩
 ·exact⟨none,0,rfl,.inl rfl⟩
 ·refine⟨some D,q,rfl,?_⟩;rcases o with o|⟨b,off,rfl,o⟩
  ·exact .inl o
  ·exact .inr ⟨b,off,rfl,o⟩
theorem Hold.slice {w:World}{v:Value}{zs:List Int}(h:Hold w v zs): ∃a o,v= .slice a zs.length o∧zs.length≤o∧(o:Int)≤9223372036854775807:=by
 rcases h.2 with⟨rfl,rfl⟩|⟨D,o,rfl,G,q,I⟩
 ·exact⟨none,0,rfl,Nat.le_refl _,by omega⟩
 ·exact⟨some D,o,rfl,G,by unfold maxLen at q;omega⟩
theorem Hold.src {w:World}{v:Value}{zs:List Int}(h:Hold w v zs):SrcIs w v zs.length (zs.map qp):=by
 rcases h.2 with⟨rfl,rfl⟩|⟨I,G,rfl,O,J,q⟩
 ·exact⟨rfl,by simp,.inl ⟨rfl,rfl⟩⟩
 ·refine⟨by simp,qdK,.inr ⟨I,G,rfl,?_⟩⟩;rcases q with rfl|⟨b,off,rfl,q⟩
  ·intro j u D;simp at D
  ·intro j u D;obtain⟨o,rfl⟩:=List.getElem?_eq_some_iff.1 D;simp at o
   rw[Go.WideShapes.add_plain,q.2 j o];simp[qp,qn,Lg,o]
theorem Hold.keep {w w':World}{v:Value}{zs:List Int}(h:Hold w v zs)(G:w.heap.size≤w'.heap.size)(O: ∀b,v.ownBlock=some b→b<w.heap.size→w'.heap[b]? =w.heap[b]?):Hold w' v zs:=by
 refine⟨h.1,?_⟩;rcases h.2 with q|⟨I,D,rfl,V,q,o⟩
 ·exact .inl q
 ·refine .inr ⟨I,D,rfl,V,q,?_⟩;rcases o with o|⟨b,off,rfl,o,U⟩
  ·exact .inl o
  ·refine .inr ⟨b,off,rfl,Nat.lt_of_lt_of_le o G,fun i J=>?_⟩;rw[←U i J];exact World.cell?_of_block (O b rfl o)
theorem Hold.below {w w':World}{v:Value}{zs:List Int}(h:Hold w v zs)(q:Below w.heap.size w w'):Hold w' v zs:=h.keep q.size fun b _ o=>q.block b o
theorem Qn {W:World}{base:Nat}{v:Value}{n:Nat}{zs:List Int}(h:W.ownsRow base 5 1 v n (zs.map qp))(J: ∀z∈zs,0≤z∧z≤255):Hold W v zs:=by
 have G:zs.length=n:=by have:=h.1;simpa using this
 refine⟨J,?_⟩;rcases h.2 with⟨rfl,h0⟩|⟨g,q,U,rfl,X,V,Y,I,Z,h6⟩
 ·exact .inl ⟨List.eq_nil_of_length_eq_zero (by omega),rfl⟩
 ·refine .inr ⟨⟨g,0,none⟩,q,by rw[G],by omega,I,?_⟩;obtain⟨a,c,e,o⟩:=QR h;rcases o with o|⟨b,off,D,O⟩
  ·exact .inl o
  ·rw[D]at e;simp only[Value.slice.injEq,Option.some.injEq,Addr.mk.injEq,and_true]at e;obtain⟨⟨rfl,rfl⟩, -, -⟩:=e;exact .inr ⟨_,_,rfl,O⟩
theorem qca (x y c:Nat)(D:x<18446744073709551616)(q:y<18446744073709551616)(o:c≤1)(w:World):
  (callFunc 262 #[.int .u64 (x:Nat),.int .u64 (y:Nat),.int .u64 (c:Nat)]).run Tryz.prog w=
   .ok (.value (.tuple #[.int .u64 (((x+y+c)%18446744073709551616:Nat):Int),.int .u64 (((x+y+c)/18446744073709551616:Nat):Int)])) w:=by
 rw[run_callFunc_extern Tryz.func262 (by kernel_rfl) (by kernel_rfl) (by kernel_rfl) (e:=add64Entry) (by kernel_rfl),run_add64 x y c (by omega) (by omega) (by omega) (by omega)];simp only[Result.andThen];congr 5<;>omega
theorem qcW (o n:Nat)(h:o+n<9223372036854775808)(w:World):
  Calls Tryz.prog 261 #[.agg #[.int .u64 (o:Nat),.int .u64 0],.int .u64 (n:Nat)] w fun e w'=>e= .returned (.tuple #[.agg #[.int .u64 ((o+n:Nat):Int),.int .u64 0],.bool false])∧Below w.heap.size w w':=by
 have q:=qca o n 0 (by omega) (by omega) (by omega);have D:=qca 0 0 0 (by omega) (by omega) (by omega);rw[show(o+n+0)%18446744073709551616=o+n by omega,show(o+n+0)/18446744073709551616=0 by omega]at q;rw[show(0+0+0)%18446744073709551616=0 by omega,show(0+0+0)/18446744073709551616=0 by omega]at D;simp only[Int.natCast_zero]at q D;obtain⟨s,G⟩:=Ex (o+n);rw[G]at q⊢;clear G h;go_enter Tryz.func261,Tryz.ntmps261
 go_wp2_with (simp only[q,D])
 exact Bp (v:= .tuple #[.agg #[.int .u64 (s:Nat),.int .u64 0],.bool false]) (by simp[results,Tryz.results261,go_sem]) rfl ⟨rfl,(Br.alloc Nl _).alloc (by simp) _⟩
theorem Ze (big:Bool)(w:World):Calls Tryz.prog 134 #[.int .i64 (kB big)] w fun e w'=>e= .returned (.int .i64 (bB big:Nat))∧w'=w:=by
 cases big<;>
 ·simp only[kB,bB,cond];go_enter Tryz.func134,Tryz.ntmps134
  go_wp2
  go_ret
  exact⟨rfl,rfl⟩
theorem YG (big:Bool)(w:World):Calls Tryz.prog 181 #[.int .i64 (kB big)] w fun e w'=>e= .returned (.int .i64 (bB big:Nat))∧w'=w:=by
 cases big<;>
 ·simp only[kB,bB,cond];go_enter Tryz.func181,Tryz.ntmps181
  go_wp2
  go_ret
  exact⟨rfl,rfl⟩
theorem Z4 (zs:List Int)(v:Value)(n:Nat)(w:World)(h:Hold w v zs)(hl:zs.length≤n)(hn:1≤n∧n≤65535):
  Calls Tryz.prog 161 #[v,.int .i64 (n:Nat)] w fun e w'=> ∃v',e= .returned v'∧w'.ownsRow w.heap.size 5 1 v' n ((Qv n zs).map qp)∧Below w.heap.size w w':=by
 obtain⟨i0,hi,ae,I,ac⟩:=info_parts Qy;have U:=h.src;obtain⟨a,aj,rfl,ak,am⟩:=h.slice;have al: ∀W:World,(Instr.makeSlice 24 (.int .i64 0) (.int .i64 (n:Nat))).run Tryz.prog W= .ok (.slice (some ⟨W.heap.size,0,none⟩) 0 n) (W.alloc (.cells (madeCells #[.int .u8 0] n) 5)):=by
  intro W;have:=run_make (P:=Tryz.prog) W 24 5 i0 (.int .u8 0) Tryz.underlying24 hi ae .i64 .i64 0 n (by omega) (by omega) (by rw[ac];omega) (by omega)
  simpa [I,show(Value.int .u8 0).cells= #[.int .u8 0] from rfl] using this
 have D:(w.alloc (.cells (madeCells #[.int .u8 0] n) 5)).ownsRow w.heap.size 5 1 (.slice (some ⟨w.heap.size,0,none⟩) 0 n) 0 []:=by
  refine⟨rfl,.inr ⟨w.heap.size,n,_,rfl,Nat.le_refl _,Wn _ _,Nat.zero_le _,by unfold maxLen;omega,by simp[madeCells],rfl⟩⟩
 have J:Below w.heap.size w (w.alloc (.cells (madeCells #[.int .u8 0] n) 5)):=Br.alloc Nl _;have X:=U.below J;clear h U;go_enter Tryz.func161,Tryz.ntmps161
 obtain⟨m,hm⟩:=Ex (n - zs.length);have aa:(n:Int) - (zs.length:Int)=(m:Int):=by omega
 have an:m≤65535:=by omega
 have K1:=hid aa;have HM:=hid hm;have ad:zs.length+m=n:=by omega
 have o:=hid ad;obtain⟨Z,q⟩:=Ex w.heap.size;rw[q]at D J;clear aa hm ad;go_wp2_with (first|((with_reducible show wpList _ _ _ (Oper.mk (some 8) _ _ _ _ _::_) _ _);refine jA rfl _ _ _ rfl Z 5 i0 Tryz.underlying24 hi I Z 0 n [] (by rw[←q];rfl) D _ zs.length _ rfl X (by omega) ?_;intro w2 Y af;obtain⟨V,ab,O,ag, -⟩:=zg Y)|((with_reducible show wpList _ _ _ (Oper.mk (some 13) _ _ _ _ _::_) _ _);refine jl rfl _ _ _ _ rfl 5 .i64 i0 (.int .u8 0) Tryz.underlying24 Tryz.underlying3 hi ae I rfl Z zs.length n m V rfl (by rw[←K1.out];rfl) ab (by rw[o.out];exact Nat.le_refl _) (by rw[o.out,O];exact Nat.le_refl _) (by omega) (by rw[ac];omega) rfl ?_))
 go_ret
 rw[o.out];have hp:Qv n zs=zs++List.replicate m 0:=by rw[←HM.out];rfl
 have G:V.toList.take zs.length=zs.map qp:=by simpa using ag
 have ah:V.toList.drop n=[]:=List.drop_of_length_le (by simp[O]);refine⟨_,rfl,⟨by rw[hp];simp[o.out],.inr ⟨Z,n,_,rfl,by omega,setRow_heap _ _ _ _ _ _ ab,Nat.le_refl _,by unfold maxLen;omega,?_,?_⟩⟩,?_⟩
 ·have ai:=congrArg List.length G;simp at ai
  simp[O,o.out];have:=o.out;omega
 ·rw[hp,G,ah];simp only[List.append_nil,List.map_append,List.map_replicate];exact List.take_of_length_le (by simp[o.out])
 ·rw[q];exact below_setRow (J.grown af (by simp[q]) (fun k e=>by cases e;exact Nat.le_refl _)) Nl _
theorem Holds8.mono_below {w w':World}{v:Value}{zs:List Int}{B:Nat}(h:Holds8 w v zs)(o:Below B w w')(q:w.heap.size≤B):Holds8 w' v zs:=qW h (o.mono q)
theorem qdy (h O:List Int)(hh:Words 64 8 h)(v:Value)(q:Nat)(ag:(q:Int)<9223372036854775808)(G node:Bool)(w:World)(hH:Holds8 w v O)(hz: ∀z∈O,0≤z∧z≤255)(hl:O.length=128):
  Calls Tryz.prog 184 #[.agg (qg .u64 h),v,.agg #[.int .u64 (q:Nat),.int .u64 0],.bool G,.bool node] w fun e w'=>e= .returned (.agg (qg .u64 (yk true h O (q:Nat) G node)))∧Below w.heap.size w w':=by
 obtain⟨o,D⟩:=Ex w.heap.size;have J:=Q5 8 16 hz (by rw[hl]);obtain⟨M,hM⟩:=Ex (QM 8 16 O);obtain⟨R,hR⟩:=Ex (yk true h O (q:Nat) G node);have af:Words 64 8 R:=by rw[←hR];exact QH true hh _ _ _ _
 have ah:zr mixBig IVb 12 h M (q:Nat) 0 G node=R:=by rw[←hR,←hM];rfl
 rw[hR];rw[hM]at J;have HM:=hid hM;have aj:=hid ah;have HL:=hid hl;have ao:=hid ag;clear hM hR ah hl ag;have Y:Below o w (((w.alloc (.cells (qg .u64 h) 274)).alloc (.cells #[.int .u64 (q:Nat),.int .u64 0] 281)).alloc (.cells #[.int .u64 0,.int .u64 0,.int .u64 0,.int .u64 0,.int .u64 0,.int .u64 0,.int .u64 0,.int .u64 0] 274)):=by rw[←D];exact((Br.alloc Nl _).alloc (by simp) _).alloc (by simp;omega) _
 have al:(((w.alloc (.cells (qg .u64 h) 274)).alloc (.cells #[.int .u64 (q:Nat),.int .u64 0] 281)).alloc (.cells #[.int .u64 0,.int .u64 0,.int .u64 0,.int .u64 0,.int .u64 0,.int .u64 0,.int .u64 0,.int .u64 0] 274)).heap.size=o+1+1+1:=by simp[D]
 have h0:(((w.alloc (.cells (qg .u64 h) 274)).alloc (.cells #[.int .u64 (q:Nat),.int .u64 0] 281)).alloc (.cells #[.int .u64 0,.int .u64 0,.int .u64 0,.int .u64 0,.int .u64 0,.int .u64 0,.int .u64 0,.int .u64 0] 274)).heap[o]? =some (.cells (qg .u64 h) 274 (0,0)):=by
  rw[Bh _ _ _ (by simp[D];omega),Bh _ _ _ (by simp[D]),←D];exact Wn _ _
 have h1:(((w.alloc (.cells (qg .u64 h) 274)).alloc (.cells #[.int .u64 (q:Nat),.int .u64 0] 281)).alloc (.cells #[.int .u64 0,.int .u64 0,.int .u64 0,.int .u64 0,.int .u64 0,.int .u64 0,.int .u64 0,.int .u64 0] 274)).heap[o+1]? =some (.cells #[.int .u64 (q:Nat),.int .u64 0] 281 (0,0)):=by
  rw[Bh _ _ _ (by simp[D]),show o+1=(w.alloc (.cells (qg .u64 h) 274)).heap.size by simp[D]];exact Wn _ _
 have h2:(((w.alloc (.cells (qg .u64 h) 274)).alloc (.cells #[.int .u64 (q:Nat),.int .u64 0] 281)).alloc (.cells #[.int .u64 0,.int .u64 0,.int .u64 0,.int .u64 0,.int .u64 0,.int .u64 0,.int .u64 0,.int .u64 0] 274)).heap[o+1+1]? =some (.cells #[.int .u64 0,.int .u64 0,.int .u64 0,.int .u64 0,.int .u64 0,.int .u64 0,.int .u64 0,.int .u64 0] 274 (0,0)):=by
  rw[show o+1+1=((w.alloc (.cells (qg .u64 h) 274)).alloc (.cells #[.int .u64 (q:Nat),.int .u64 0] 281)).heap.size by simp[D]];exact Wn _ _
 have HH:=hid (hH.mono_below Y (by omega));clear hH;go_enter Tryz.func184,Tryz.ntmps184
 go_wp2_with fail
 generalize (((w.alloc (.cells (qg .u64 h) 274)).alloc (.cells #[.int .u64 (q:Nat),.int .u64 0] 281)).alloc (.cells #[.int .u64 0,.int .u64 0,.int .u64 0,.int .u64 0,.int .u64 0,.int .u64 0,.int .u64 0,.int .u64 0] 274))=w0 at*;refine(qd4 O v _ HH.out hz HL.out).mono ?_;rintro e U ⟨rfl,I⟩;rw[HM.out];have an:=I.size;have k0:=qe h0 I;have k1:=qe h1 I;have k2:=qe h2 I;have ac:Below o w U:=Y.trans (I.mono (by omega));have ai:o+3≤U.heap.size:=by omega
 clear h0 h1 h2 I Y HH al an;have K0:=hid k0;have K1:=hid k1;have K2:=hid k2;have ab:=hid hh;clear k0 k1 k2 hh hz;go_upto_region 2 with((with_reducible show wpList _ _ _ (Oper.mk none (Op.store 252 _ _) _ _ _ _::_) _ _);refine wpList_store_row rfl 252 _ _ rfl U.heap.size (qg .u64 M) rfl rfl 252 _ (Wn _ _) (by rw[qd,J.1];kernel_rfl) (by rw[qd,J.1];rfl) qw ?_)
 refine qj ?_;intro W V;obtain⟨bv,Z⟩:=Ex U.heap.size;have g0:W.heap[o]? =some (.cells (qg .u64 h) 274 (0,0)):=by rw[V];exact(setRow_other (U.alloc _) _ _ _ (by omega)).trans ((Bh _ _ _ (by omega)).trans K0.out)
 have g1:W.heap[o+1]? =some (.cells #[.int .u64 (q:Nat),.int .u64 0] 281 (0,0)):=by rw[V];exact(setRow_other (U.alloc _) _ _ _ (by omega)).trans ((Bh _ _ _ (by omega)).trans K1.out)
 have g2:W.heap[o+1+1]? =some (.cells #[.int .u64 0,.int .u64 0,.int .u64 0,.int .u64 0,.int .u64 0,.int .u64 0,.int .u64 0,.int .u64 0] 274 (0,0)):=by rw[V];exact(setRow_other (U.alloc _) _ _ _ (by omega)).trans ((Bh _ _ _ (by omega)).trans K2.out)
 have g3:W.heap[bv]? =some (.cells (qg .u64 M) 252 (0,0)):=by rw[V,←Z];exact setRow_heap _ _ _ _ _ _ (Wn _ _)
 have ad:Below o w W:=by rw[V];exact below_setRow (ac.alloc (by omega) _) (by omega) _
 rw[Z];clear V ac Z ai K0 K1 K2;have X:=hid af;have ae:=hid J;clear af J;have ak:=qa g1 0;go_wp2_with (first|((with_reducible show wpList _ _ _ (Oper.mk (some 18) _ _ _ _ _::_) _ _);refine wpList_load_row rfl 274 _ rfl o rfl _ _ _ _ g0 Tryz.underlying274 rfl (by rw[qd,ab.out.1];kernel_rfl) ?_)|((with_reducible show wpList _ _ _ (Oper.mk (some 19) _ _ _ _ _::_) _ _);refine wpList_load_row rfl 252 _ rfl bv rfl _ _ _ _ g3 Tryz.underlying252 rfl (by rw[qd,ae.out.1];kernel_rfl) ?_)|((with_reducible show wpList _ _ _ (Oper.mk (some 20) _ _ _ _ _::_) _ _);refine wpList_load_row rfl 281 _ rfl (o+1) rfl _ _ _ _ g1 Tryz.underlying281 rfl (by kernel_rfl) ?_))
 refine(qh1 h M ab.out ae.out (q:Nat) 0 G node _).mono ?_;rintro e w2 ⟨rfl,aa⟩;rw[aj.out];have j2:=qe g2 aa;have am:Below o w w2:=ad.trans (aa.mono (by have:=(Ai g2).1;omega));clear g0 g1 g2 g3 ad aa ak;go_wp2_with ((with_reducible show wpList _ _ _ (Oper.mk none (Op.store 274 _ _) _ _ _ _::_) _ _);refine wpList_store_row rfl 274 _ _ rfl (o+1+1) (qg .u64 R) rfl rfl 274 _ j2 (by rw[qd,X.out.1];kernel_rfl) (by rw[qd,X.out.1];rfl) qw ?_)
 exact Bp (results_cell_row rfl _ _ (o+1+1) 274 _ _ _ rfl (setRow_heap _ _ _ _ _ _ j2) Tryz.underlying274 rfl (by rw[qd,X.out.1];kernel_rfl)) rfl ⟨rfl,by rw[D];exact below_setRow am (by omega) _⟩
theorem qbX (h O:List Int)(hh:Words 32 8 h)(v:Value)(q:Nat)(ag:(q:Int)<9223372036854775808)(G node:Bool)(w:World)(hH:Holds8 w v O)(hz: ∀z∈O,0≤z∧z≤255)(hl:O.length=64):
  Calls Tryz.prog 187 #[.agg (qg .u32 h),v,.agg #[.int .u64 (q:Nat),.int .u64 0],.bool G,.bool node] w fun e w'=>e= .returned (.agg (qg .u32 (yk false h O (q:Nat) G node)))∧Below w.heap.size w w':=by
 obtain⟨o,D⟩:=Ex w.heap.size;have J:=Q5 4 16 hz (by rw[hl]);obtain⟨M,hM⟩:=Ex (QM 4 16 O);obtain⟨R,hR⟩:=Ex (yk false h O (q:Nat) G node);have af:Words 32 8 R:=by rw[←hR];exact QH false hh _ _ _ _
 have ah:zr mixSmall IVs 10 h M ((q:Nat)%4294967296) ((q:Nat)/4294967296) G node=R:=by rw[←hR,←hM];rfl
 rw[hR];rw[hM]at J;have HM:=hid hM;have aj:=hid ah;have HL:=hid hl;have ao:=hid ag;clear hM hR ah hl ag;have Y:Below o w (((w.alloc (.cells (qg .u32 h) 284)).alloc (.cells #[.int .u64 (q:Nat),.int .u64 0] 281)).alloc (.cells #[.int .u32 0,.int .u32 0,.int .u32 0,.int .u32 0,.int .u32 0,.int .u32 0,.int .u32 0,.int .u32 0] 284)):=by rw[←D];exact((Br.alloc Nl _).alloc (by simp) _).alloc (by simp;omega) _
 have al:(((w.alloc (.cells (qg .u32 h) 284)).alloc (.cells #[.int .u64 (q:Nat),.int .u64 0] 281)).alloc (.cells #[.int .u32 0,.int .u32 0,.int .u32 0,.int .u32 0,.int .u32 0,.int .u32 0,.int .u32 0,.int .u32 0] 284)).heap.size=o+1+1+1:=by simp[D]
 have h0:(((w.alloc (.cells (qg .u32 h) 284)).alloc (.cells #[.int .u64 (q:Nat),.int .u64 0] 281)).alloc (.cells #[.int .u32 0,.int .u32 0,.int .u32 0,.int .u32 0,.int .u32 0,.int .u32 0,.int .u32 0,.int .u32 0] 284)).heap[o]? =some (.cells (qg .u32 h) 284 (0,0)):=by
  rw[Bh _ _ _ (by simp[D];omega),Bh _ _ _ (by simp[D]),←D];exact Wn _ _
 have h1:(((w.alloc (.cells (qg .u32 h) 284)).alloc (.cells #[.int .u64 (q:Nat),.int .u64 0] 281)).alloc (.cells #[.int .u32 0,.int .u32 0,.int .u32 0,.int .u32 0,.int .u32 0,.int .u32 0,.int .u32 0,.int .u32 0] 284)).heap[o+1]? =some (.cells #[.int .u64 (q:Nat),.int .u64 0] 281 (0,0)):=by
  rw[Bh _ _ _ (by simp[D]),show o+1=(w.alloc (.cells (qg .u32 h) 284)).heap.size by simp[D]];exact Wn _ _
 have h2:(((w.alloc (.cells (qg .u32 h) 284)).alloc (.cells #[.int .u64 (q:Nat),.int .u64 0] 281)).alloc (.cells #[.int .u32 0,.int .u32 0,.int .u32 0,.int .u32 0,.int .u32 0,.int .u32 0,.int .u32 0,.int .u32 0] 284)).heap[o+1+1]? =some (.cells #[.int .u32 0,.int .u32 0,.int .u32 0,.int .u32 0,.int .u32 0,.int .u32 0,.int .u32 0,.int .u32 0] 284 (0,0)):=by
  rw[show o+1+1=((w.alloc (.cells (qg .u32 h) 284)).alloc (.cells #[.int .u64 (q:Nat),.int .u64 0] 281)).heap.size by simp[D]];exact Wn _ _
 have HH:=hid (hH.mono_below Y (by omega));clear hH;go_enter Tryz.func187,Tryz.ntmps187
 go_wp2_with fail
 generalize (((w.alloc (.cells (qg .u32 h) 284)).alloc (.cells #[.int .u64 (q:Nat),.int .u64 0] 281)).alloc (.cells #[.int .u32 0,.int .u32 0,.int .u32 0,.int .u32 0,.int .u32 0,.int .u32 0,.int .u32 0,.int .u32 0] 284))=w0 at*;refine(qd5 O v _ HH.out hz HL.out).mono ?_;rintro e U ⟨rfl,I⟩;rw[HM.out];have an:=I.size;have k0:=qe h0 I;have k1:=qe h1 I;have k2:=qe h2 I;have ac:Below o w U:=Y.trans (I.mono (by omega));have ai:o+3≤U.heap.size:=by omega
 clear h0 h1 h2 I Y HH al an;have K0:=hid k0;have K1:=hid k1;have K2:=hid k2;have ab:=hid hh;clear k0 k1 k2 hh hz;go_upto_region 2 with((with_reducible show wpList _ _ _ (Oper.mk none (Op.store 298 _ _) _ _ _ _::_) _ _);refine wpList_store_row rfl 298 _ _ rfl U.heap.size (qg .u32 M) rfl rfl 298 _ (Wn _ _) (by rw[qd,J.1];kernel_rfl) (by rw[qd,J.1];rfl) qw ?_)
 refine qj ?_;intro W V;obtain⟨bv,Z⟩:=Ex U.heap.size;have g0:W.heap[o]? =some (.cells (qg .u32 h) 284 (0,0)):=by rw[V];exact(setRow_other (U.alloc _) _ _ _ (by omega)).trans ((Bh _ _ _ (by omega)).trans K0.out)
 have g1:W.heap[o+1]? =some (.cells #[.int .u64 (q:Nat),.int .u64 0] 281 (0,0)):=by rw[V];exact(setRow_other (U.alloc _) _ _ _ (by omega)).trans ((Bh _ _ _ (by omega)).trans K1.out)
 have g2:W.heap[o+1+1]? =some (.cells #[.int .u32 0,.int .u32 0,.int .u32 0,.int .u32 0,.int .u32 0,.int .u32 0,.int .u32 0,.int .u32 0] 284 (0,0)):=by rw[V];exact(setRow_other (U.alloc _) _ _ _ (by omega)).trans ((Bh _ _ _ (by omega)).trans K2.out)
 have g3:W.heap[bv]? =some (.cells (qg .u32 M) 298 (0,0)):=by rw[V,←Z];exact setRow_heap _ _ _ _ _ _ (Wn _ _)
 have ad:Below o w W:=by rw[V];exact below_setRow (ac.alloc (by omega) _) (by omega) _
 rw[Z];clear V ac Z ai K0 K1 K2;have X:=hid af;have ae:=hid J;clear af J;have ak:=qa g1 0;go_wp2_with (first|((with_reducible show wpList _ _ _ (Oper.mk (some 18) _ _ _ _ _::_) _ _);refine wpList_load_row rfl 284 _ rfl o rfl _ _ _ _ g0 Tryz.underlying284 rfl (by rw[qd,ab.out.1];kernel_rfl) ?_)|((with_reducible show wpList _ _ _ (Oper.mk (some 19) _ _ _ _ _::_) _ _);refine wpList_load_row rfl 298 _ rfl bv rfl _ _ _ _ g3 Tryz.underlying298 rfl (by rw[qd,ae.out.1];kernel_rfl) ?_))
 refine(qh2 h M ab.out ae.out (q:Nat) (by omega) (by have:=ao.out;omega) G node _).mono ?_;rintro e w2 ⟨rfl,aa⟩;rw[aj.out];have j2:=qe g2 aa;have am:Below o w w2:=ad.trans (aa.mono (by have:=(Ai g2).1;omega));clear g0 g1 g2 g3 ad aa ak;go_wp2_with ((with_reducible show wpList _ _ _ (Oper.mk none (Op.store 284 _ _) _ _ _ _::_) _ _);refine wpList_store_row rfl 284 _ _ rfl (o+1+1) (qg .u32 R) rfl rfl 284 _ j2 (by rw[qd,X.out.1];kernel_rfl) (by rw[qd,X.out.1];rfl) qw ?_)
 exact Bp (results_cell_row rfl _ _ (o+1+1) 284 _ _ _ rfl (setRow_heap _ _ _ _ _ _ j2) Tryz.underlying284 rfl (by rw[qd,X.out.1];kernel_rfl)) rfl ⟨rfl,by rw[D];exact below_setRow am (by omega) _⟩
def Y4 (h:List Int)(lo:Int)(hv:Value):Array Value:= #[.int .u64 (wd h 0),.int .u64 (wd h 1),.int .u64 (wd h 2),.int .u64 (wd h 3),.int .u64 (wd h 4),.int .u64 (wd h 5),.int .u64 (wd h 6),.int .u64 (wd h 7),.int .u64 lo,.int .u64 0,hv,.int .i64 128,.func (.func 184) #[] #[],.func (.func 185) #[] #[]]
def Y3 (h:List Int)(lo:Int)(hv:Value):Array Value:= #[.int .u32 (wd h 0),.int .u32 (wd h 1),.int .u32 (wd h 2),.int .u32 (wd h 3),.int .u32 (wd h 4),.int .u32 (wd h 5),.int .u32 (wd h 6),.int .u32 (wd h 7),.int .u64 lo,.int .u64 0,hv,.int .i64 64,.func (.func 187) #[] #[],.func (.func 188) #[] #[]]
theorem qfa (o:List Int)(v:Value)(w:World)(hH:Holds8 w v o)(hz: ∀z∈o,0≤z∧z≤255)(hl:o.length=64):
  Calls Tryz.prog 160 #[.int .i64 1,v] w fun e w'=> ∃p,e= .returned (.iface 277 (.pointer (some ⟨p,0,none⟩)))∧w.heap.size≤p∧w'.heap[p]? =some (.cells (Y4 (h0Z true o) 0 (.slice none 0 0)) 283 (0,0))∧Below w.heap.size w w':=by
 obtain⟨H,q⟩:=Ex (h0Z true o);have U:Words 64 8 H:=by rw[←q];exact QK true o
 have V:yh .u64 IVb 8 o=H:=by rw[←q];rfl
 rw[q];have aa:=hid V;clear q V;have Y:=hid U;clear U;go_enter Tryz.func160,Tryz.ntmps160
 go_wp2_with fail
 refine(qeg o v _ hH hz hl).mono ?_;rintro e w1 ⟨rfl,G⟩;rw[aa.out];clear hH hz hl;go_upto_region 3 with((with_reducible show wpList _ _ _ (Oper.mk none (Op.store 274 _ _) _ _ _ _::_) _ _);refine wpList_store_row rfl 274 _ _ rfl w1.heap.size (qg .u64 H) rfl rfl 274 _ (Wn _ _) (by rw[qd,Y.out.1];kernel_rfl) (by rw[qd,Y.out.1];rfl) qw ?_)
 refine qj ?_;intro W X;obtain⟨bv,J⟩:=Ex w1.heap.size;have O:=G.size;have Z:W.heap[bv]? =some (.cells (qg .u64 H) 274 (0,0)):=by rw[X,←J];exact setRow_heap _ _ _ _ _ _ (Wn _ _)
 have D:Below w.heap.size w W:=by rw[X];exact below_setRow (G.alloc O _) O _
 rw[J];clear X;rw[zB Y.out]at Z;have I:=D.size;go_wp2_with (first|((with_reducible show wpList _ _ _ (Oper.mk (some 16) _ _ _ _ _::_) _ _);refine wpList_load_row rfl 274 _ rfl bv rfl _ _ _ _ Z Tryz.underlying274 rfl (by kernel_rfl) ?_))
 go_ret
 exact⟨_,rfl,I,Wn _ _,D.alloc I _⟩
theorem qdS (o:List Int)(v:Value)(w:World)(hH:Holds8 w v o)(hz: ∀z∈o,0≤z∧z≤255)(hl:o.length=32):
  Calls Tryz.prog 160 #[.int .i64 2,v] w fun e w'=> ∃p,e= .returned (.iface 287 (.pointer (some ⟨p,0,none⟩)))∧w.heap.size≤p∧w'.heap[p]? =some (.cells (Y3 (h0Z false o) 0 (.slice none 0 0)) 291 (0,0))∧Below w.heap.size w w':=by
 obtain⟨H,q⟩:=Ex (h0Z false o);have U:Words 32 8 H:=by rw[←q];exact QK false o
 have V:yh .u32 IVs 4 o=H:=by rw[←q];rfl
 rw[q];have aa:=hid V;clear q V;have Y:=hid U;clear U;go_enter Tryz.func160,Tryz.ntmps160
 go_wp2_with fail
 refine(qeh o v _ hH hz hl).mono ?_;rintro e w1 ⟨rfl,G⟩;rw[aa.out];clear hH hz hl;go_upto_region 5 with((with_reducible show wpList _ _ _ (Oper.mk none (Op.store 284 _ _) _ _ _ _::_) _ _);refine wpList_store_row rfl 284 _ _ rfl w1.heap.size (qg .u32 H) rfl rfl 284 _ (Wn _ _) (by rw[qd,Y.out.1];kernel_rfl) (by rw[qd,Y.out.1];rfl) qw ?_)
 refine qj ?_;intro W X;obtain⟨bv,J⟩:=Ex w1.heap.size;have O:=G.size;have Z:W.heap[bv]? =some (.cells (qg .u32 H) 284 (0,0)):=by rw[X,←J];exact setRow_heap _ _ _ _ _ _ (Wn _ _)
 have D:Below w.heap.size w W:=by rw[X];exact below_setRow (G.alloc O _) O _
 rw[J];clear X;rw[zB Y.out]at Z;have I:=D.size;go_wp2_with (first|((with_reducible show wpList _ _ _ (Oper.mk (some 25) _ _ _ _ _::_) _ _);refine wpList_load_row rfl 284 _ rfl bv rfl _ _ _ _ Z Tryz.underlying284 rfl (by kernel_rfl) ?_))
 go_ret
 exact⟨_,rfl,I,Wn _ _,D.alloc I _⟩
structure Spare (S:Nat→Prop)(w w':World):Prop where
 os:w'.os=w.os
 tape:w'.tape=w.tape
 output:w'.output=w.output
 size:w.heap.size≤w'.heap.size
 block: ∀k,k<w.heap.size→S k→w'.heap[k]? =w.heap[k]?
namespace Spare
variable {S T:Nat→Prop} {w w' w'':World}
theorem refl (S:Nat→Prop)(w:World):Spare S w w:=⟨rfl,rfl,rfl,Nat.le_refl _,fun _ _ _=>rfl⟩
theorem trans (h:Spare S w w')(k:Spare T w' w'')(q: ∀b,b<w.heap.size→S b→T b):Spare S w w'':=
 ⟨k.os.trans h.os,k.tape.trans h.tape,k.output.trans h.output,Nat.le_trans h.size k.size,fun b o D=>(k.block b (Nat.lt_of_lt_of_le o h.size) (q b o D)).trans (h.block b o D)⟩
theorem of_below (S:Nat→Prop)(h:Below w.heap.size w w'):Spare S w w':=⟨h.os,h.tape,h.output,h.size,fun k o _=>h.block k o⟩
theorem below (h:Spare S w w'){B:Nat}(D:B≤w.heap.size)(o: ∀k,k<B→S k):Below B w w':=⟨h.os,h.tape,h.output,h.size,fun k q=>h.block k (by omega) (o k q)⟩
theorem of_but {b:Nat}(h:But b w w'):Spare (fun k=>k≠b) w w':=⟨h.os,h.tape,h.output,h.size,fun k q o=>h.block k q o⟩
theorem of_grown {b:Option Nat}(h:w.grownBy w' b):Spare (fun k=>b≠some k) w w':=⟨h.os,h.tape,h.output,h.size,fun k q o=>h.block k q (fun e=>o e.symm)⟩
end Spare
def QL (big:Bool)(w:World)(p:Nat)(hv:Value)(h0 msg:List Int):Prop:=
 w.heap[p]? =some (.cells (cond big Y4 Y3 (stZ big h0 msg (nbk (bB big) msg.length)) ((bB big*nbk (bB big) msg.length:Nat):Int) hv) (cond big 283 291) (0,0))∧
 w.ownsRow 0 5 1 hv (Q1 (bB big) msg).length ((Q1 (bB big) msg).map qp)
def Y7 (p:Nat)(hv:Value):Nat→Prop:=fun k=>k≠p∧hv.ownBlock≠some k
theorem qcR (H:List Int)(o:Int)(q:Value): ∀j,j<2→(Y4 H o q)[8+j]? =(#[.int .u64 o,.int .u64 0]:Array Value)[j]? :=by
 intro j D;rcases(show j=0∨j=1 by omega)with rfl|rfl<;>rfl
theorem qcQ (H:List Int)(o:Int)(q:Value): ∀j,j<2→(Y3 H o q)[8+j]? =(#[.int .u64 o,.int .u64 0]:Array Value)[j]? :=by
 intro j D;rcases(show j=0∨j=1 by omega)with rfl|rfl<;>rfl
theorem qhc {H:List Int}(G:Words 64 8 H)(D:Int)(q:Value): ∀j,j<(qg .u64 H).size→(Y4 H D q)[0+j]? =(qg .u64 H)[j]? :=by
 rw[zB G];intro j o;have o:j<8:=o;rcases(show j=0∨j=1∨j=2∨j=3∨j=4∨j=5∨j=6∨j=7 by omega)with rfl|rfl|rfl|rfl|rfl|rfl|rfl|rfl<;>rfl
theorem qhb {H:List Int}(G:Words 32 8 H)(D:Int)(q:Value): ∀j,j<(qg .u32 H).size→(Y3 H D q)[0+j]? =(qg .u32 H)[j]? :=by
 rw[zB G];intro j o;have o:j<8:=o;rcases(show j=0∨j=1∨j=2∨j=3∨j=4∨j=5∨j=6∨j=7 by omega)with rfl|rfl|rfl|rfl|rfl|rfl|rfl|rfl<;>rfl
theorem qeY (H:List Int)(D o:Int)(q:Value):zf (Y4 H D q) 8 #[.int .u64 o,.int .u64 0]=Y4 H o q:=rfl
theorem qeX (H:List Int)(D o:Int)(q:Value):zf (Y3 H D q) 8 #[.int .u64 o,.int .u64 0]=Y3 H o q:=rfl
theorem qgf {o:List Int}(h:Words 64 8 o)(H:List Int)(D:Int)(q:Value):zf (Y4 H D q) 0 (qg .u64 o)=Y4 o D q:=by rw[zB h];rfl
theorem qge {o:List Int}(h:Words 32 8 o)(H:List Int)(D:Int)(q:Value):zf (Y3 H D q) 0 (qg .u32 o)=Y3 o D q:=by rw[zB h];rfl
def qh9 (big:Bool)(w0:World)(S:Nat→Prop)(p:Nat)(hv0:Value)(h0 msg:List Int)(W:World):Prop:=
 ∃H lo hl hv,W.heap[p]? =some (.cells (cond big Y4 Y3 H ((lo:Nat):Int) hv) (cond big 283 291) (0,0))∧W.ownsRow 0 5 1 hv hl.length (hl.map qp)∧hl.length<bB big∧qfe big h0 msg H lo hl∧
  (hv.ownBlock=hv0.ownBlock∨ ∀g,hv.ownBlock=some g→w0.heap.size≤g)∧Spare S w0 W
theorem But.of_setRow (w:World)(p:Nat)(cs:Array Value):But p w (w.setRow p cs):=⟨rfl,rfl,rfl,by simp,fun k _ o=>setRow_other w p k cs o⟩
def lenV:Value→Nat
 | .slice _ n _=>n
 | _=>0
theorem yF {W:World}{B n m:Nat}{e:TypeId}{a:Option Addr}{c:Nat}{q:List Value}(h:W.ownsRow B e 1 (.slice a m c) n q):m=n:=by
 rcases h.2 with⟨o,I⟩|⟨g,D,G,o, -⟩
 ·simp only[Value.slice.injEq]at o;omega
 ·simp only[Value.slice.injEq]at o;exact o.2.1
theorem yS {W W':World}{p:Nat}{v:Value}{n:Nat}{D:List Value}{c:Array Value}{T:TypeId}{fr:Nat×Nat}(h:W.ownsRow 0 5 1 v n D)(U:But p W W')(J:W.heap[p]? =some (.cells c T fr))(I:T≠5):W'.ownsRow 0 5 1 v n D:=by
 refine⟨h.1,?_⟩;rcases h.2 with o|⟨g,q,G,e,V,o,X⟩
 ·exact .inl o
 ·refine .inr ⟨g,q,G,e,V,?_,X⟩;have O:g<W.heap.size:=(Ai o).1;rw[U.block g O ?_];exact o;rintro rfl
  rw[J]at o;simp only[Option.some.injEq,Obj.cells.injEq]at o;exact I o.2.1
theorem ZG {W:World}{a:Option Addr}{m c n:Nat}{q:List Value}(h:W.ownsRow 0 5 1 (.slice a m c) n q)(D:n≠0): ∃g,a=some ⟨g,0,none⟩:=by
 rcases h.2 with⟨-,o⟩|⟨g,G,I,e, -⟩
 ·exact absurd o D
 ·simp only[Value.slice.injEq]at e;exact⟨g,e.1⟩
theorem qdu {W:World}{g m c n:Nat}{D:List Value}(h:W.ownsRow 0 5 1 (.slice (some ⟨g,0,none⟩) m c) n D):W.ownsRow 0 5 1 (.slice (some ⟨g,0,none⟩) 0 c) 0 []:=by
 refine⟨rfl,?_⟩;rcases h.2 with⟨o, -⟩|⟨V,O,q,e,J,o,U,I,G,X⟩
 ·simp at o
 ·simp only[Value.slice.injEq,Option.some.injEq,Addr.mk.injEq,and_true,true_and]at e;obtain⟨rfl, -,rfl⟩:=e;exact .inr ⟨g,c,q,rfl,J,o,Nat.zero_le _,I,G,rfl⟩
theorem qcA {W:World}{p:Nat}{v:Value}{n:Nat}{G:List Value}{c:Array Value}{T:TypeId}{fr:Nat×Nat}(h:W.ownsRow 0 5 1 v n G)(D:W.heap[p]? =some (.cells c T fr))(q:T≠5):some p≠v.ownBlock:=by
 rcases h.2 with⟨rfl, -⟩|⟨g,I,J,rfl,O,o,U⟩
 ·intro e;cases e
 ·intro e;simp only[Value.ownBlock,Option.some.injEq]at e;subst e;rw[D]at o;simp only[Option.some.injEq,Obj.cells.injEq]at o;exact q o.2.1
theorem qb2 {w:World}{a:Option Addr}{n c k:Nat}{zs:List Int}(h:Hold w (.slice a n c) zs)(q:k≤zs.length):Hold w (.slice a k c) (zs.take k):=by
 refine⟨fun z O=>h.1 z (List.mem_of_mem_take O),?_⟩;rcases h.2 with⟨rfl,e⟩|⟨I,V,e,X,G,o⟩
 ·simp only[Value.slice.injEq]at e;obtain⟨rfl, -,rfl⟩:=e;obtain rfl:k=0:=by simpa using q
  exact .inl ⟨rfl,rfl⟩
 ·simp only[Value.slice.injEq]at e;obtain⟨rfl, -,rfl⟩:=e;refine .inr ⟨I,c,by simp[List.length_take,Nat.min_eq_left q],by simp;omega,G,?_⟩;rcases o with o|⟨b,off,rfl,o,J⟩
  ·exact .inl (by rw[o];simp)
  ·refine .inr ⟨b,off,rfl,o,fun i U=>?_⟩;have D:i<k:=by simp at U;omega
   rw[J i (by omega)];simp[qn,Lg,D]
theorem Y1 {w O W1:World}{b v:Value}{zs V:List Int}{S:Nat→Prop}(h:Hold W1 b zs)(hv:Hold w v V)(U:b.ownBlock=v.ownBlock)(h1:Spare S w W1)(Z:Spare S w O)(hS: ∀k,v.ownBlock=some k→S k)(I:V≠[]):Hold O b zs:=by
 refine⟨h.1,?_⟩;rcases h.2 with h2|⟨ad,Y,rfl,h3,h4,G⟩
 ·exact .inl h2
 ·refine .inr ⟨ad,Y,rfl,h3,h4,?_⟩;rcases G with G|⟨X,off,rfl,G,h7⟩
  ·exact .inl G
  ·have J:v.ownBlock=some X:=U.symm;rcases hv.2 with⟨D, -⟩|⟨ab,aa,rfl, -, -,D⟩
   ·exact absurd D I
   obtain⟨o,o8,rfl,D, -⟩:=D.resolve_left I;obtain rfl:o=X:=by simpa [Value.ownBlock] using J
   have q:o<w.heap.size:=D;refine .inr ⟨o,off,rfl,Nat.lt_of_lt_of_le q Z.size,fun i hi=>?_⟩;have e1:O.heap[o]? =W1.heap[o]? :=(Z.block o q (hS o J)).trans (h1.block o q (hS o J)).symm;rw[←h7 i hi];exact World.cell?_of_block e1
theorem qb3 {w:World}{a:Option Addr}{n c:Nat}{zs:List Int}(h:Hold w (.slice a n c) zs)(o:zs≠[]): ∃b off,a=some ⟨b,off,none⟩:=by
 rcases h.2 with⟨q, -⟩|⟨I,G,e, -, -,D⟩
 ·exact absurd q o
 ·obtain⟨b,off,rfl, -⟩:=D.resolve_left o;simp only[Value.slice.injEq]at e;exact⟨b,off,e.1⟩
theorem qb4 {w:World}{a q:Option Addr}{n c k O o:Nat}{zs:List Int}(h:Hold w (.slice a n c) zs)(hk:k≤zs.length)(G:O=zs.length - k)(hc:o=c - k)(b off:Nat)(U:a=some ⟨b,off,none⟩)(J:q=some ⟨b,off+k,none⟩∨q=a∧c=k):Hold w (.slice q O o) (zs.drop k):=by
 subst U;refine⟨fun z X=>h.1 z (List.mem_of_mem_drop X),?_⟩;rcases h.2 with⟨rfl,e⟩|⟨ad,aa,e,h1,h2,D⟩
 ·simp at e
 ·simp only[Value.slice.injEq,Option.some.injEq]at e;obtain⟨rfl, -,rfl⟩:=e;rcases J with rfl|⟨rfl,ab⟩
  ·refine .inr ⟨⟨b,off+k,none⟩,o,by simp[G],by simp;omega,by omega,?_⟩;rcases D with rfl|⟨b',Z,e,D,V⟩
   ·exact .inl (by simp)
   ·simp only[Addr.mk.injEq,and_true]at e;obtain⟨rfl,rfl⟩:=e;refine .inr ⟨b,off+k,rfl,D,fun i Y=>?_⟩;have I:k+i<zs.length:=by simp at Y;omega
    have:=V (k+i) I
    rw[←Nat.add_assoc]at this;rw[this];simp[qn,Lg]
  ·refine .inr ⟨⟨b,off,none⟩,o,by simp[G],by simp;omega,by omega,.inl ?_⟩;exact List.drop_of_length_le (by omega)
theorem qaw (h0 ae O:List Int)(hh:Words 64 8 h0)(hm: ∀z∈ae,0≤z∧z≤255)(p:Nat)(hv v:Value)(w:World)(hE:QL true w p hv h0 ae)(hH:Hold w v O)(hF:O≠[]→ ∀b,v.ownBlock=some b→Y7 p hv b)(cW:(ae.length:Int)+O.length≤140737488355328):
  Calls Tryz.prog 260 #[.pointer (some ⟨p,0,none⟩),v] w fun e w'=>e= .returned (.tuple #[])∧(∃am,QL true w' p am h0 (ae++O)∧(am.ownBlock=hv.ownBlock∨ ∀g,am.ownBlock=some g→w.heap.size≤g))∧Spare (Y7 p hv) w w':=by
 obtain⟨i0,hi,cD,cH,cL⟩:=info_parts Qy;have df:p<w.heap.size:=(Ai hE.1).1;have cM:=hid hh;have cA:=hid hm;have HE:=hid hE;have HH:=hid hH;have HF:=hid hF;have b8:=hH.1;have HZ:=hid b8;clear hh hm hE hH hF b8;obtain⟨S,hS⟩:=Ex (Y7 p hv);have HS:=hid hS;rw[hS];clear hS;go_enter Tryz.func260,Tryz.ntmps260
 go_wp2_with fail
 go_loopw [1] (fun b wr=> ∃j:Nat,j≤O.length∧Hold wr b (O.drop j)∧b.ownBlock=v.ownBlock∧(∃am,QL true wr p am h0 (ae++O.take j)∧(am.ownBlock=hv.ownBlock∨ ∀g,am.ownBlock=some g→w.heap.size≤g))∧Spare S w wr) (fun b _=>lenV b)
 case atStart=>exact⟨0,Nat.zero_le _,by simpa using HH.out,rfl,⟨hv,by simpa using HE.out,.inl rfl⟩,Spare.refl _ _⟩
 case round=>
  obtain⟨j,hj,bq,bU,⟨cp,bG,aS⟩,bA⟩:=hrel;have cF:=hid bq;have al:=hid bA;have a7:=hid bG;have aO:=hid bU;have an:=hid aS;obtain⟨ab,cb,rfl,cm,cX⟩:=bq.slice;clear bq bA bG bU aS;by_cases af:j<O.length
  case neg=>
   obtain rfl:j=O.length:=by omega
   have aA:(O.drop O.length).length=0:=by simp
   rw[aA]at*;go_wp2
   go_end0
   have h1:=a7.out;rw[List.take_length]at h1;exact⟨rfl,⟨cp,h1,an.out⟩,al.out⟩
  have bZ:(O.drop j).length=O.length - j:=by simp
  have cN:0<(O.drop j).length:=by omega
  have q:((O.drop j).length:Int)≤140737488355328:=by omega
  obtain⟨m1,aD⟩:=Ex (ae++O.take j);have dd:m1.length≤140737488355328:=by rw[←aD];simp;omega
  have bt: ∀z∈m1,0≤z∧z≤255:=by
   rw[←aD];intro z hz;rcases List.mem_append.1 hz with hz|hz
   ·exact cA.out z hz
   ·exact HZ.out z (List.mem_of_mem_take hz)
  have c9:=hid bt;have cI:=hid bZ;have bX:=a7.out;rw[aD]at bX;have cO:=hid aD;obtain⟨N,hN⟩:=Ex ((O.drop j).length);rw[hN]at cN q cm⊢;have HN:=hid hN;have bu:=Jf (Ys true) m1;have bz:=qbV true h0 m1;have bn:=qbW true h0 m1;have bf:=ZM (Ys true) m1;have bI:=YT (n:=bB true) bt;have bN:=yD true cM.out m1 (nbk (bB true) m1.length);obtain⟨aa,aw⟩:=bX;simp only[cond]at aa;generalize stZ true h0 m1 (nbk (bB true) m1.length)=H1 at*;generalize bB true*nbk (bB true) m1.length=I at*;generalize Q1 (bB true) m1=hl at*;rw[show bB true=128 from rfl]at bn bf;obtain⟨a1,n1,c1,rfl⟩:=qu aw;have cr:n1=hl.length:=yF aw;subst cr;have aN:=hid bz;have au:=hid bn;have a5:=hid bu;have b4:=hid bI;have aE:=hid bN;have bp:=hid aa;have bo:=hid aw;have ao:wr.cell? ⟨p,10,none⟩=some (.slice a1 hl.length c1):=qa aa 10;have aP:wr.cell? ⟨p,11,none⟩=some (.int .i64 128):=qa aa 11;have aB:=frozen_of_row wr p 10 _ _ aa;have b0:=frozen_of_row wr p 11 _ _ aa;clear aa aw bN bI bu bn bz aD bt bZ hN;go_upto_region 1 with(fail)
  obtain⟨tb,aH⟩: ∃tb,((hl.length:Int)==128)=tb:=⟨_,rfl⟩;go_quiet (fail)
  go_upto_if 17 with(fail)
  go_cut [1] from 4 (fun b W=>b= .slice ab N cb∧qh9 true w S p hv h0 m1 W)
  case first=>
   have av:Below wr.heap.size wr (wr.drewN nq):=QF nq;have ah:=qe bp.out av;have ax:=qi bo.out (fun g _ hg=>av.block g hg);have ad:Spare S w (wr.drewN nq):=al.out.trans (Spare.of_below S av) (fun _ _ h=>h);clear av ao aP aB b0;generalize wr.drewN nq=W2 at*
   cases tb
   case false=>
    have HT:=hid aH;clear aH;go_wp2
    go_meet
    case rel=>exact⟨rfl,H1,I,hl,_,ah,ax,by have:=beq_eq_false_iff_ne.1 HT.out;show hl.length<128;omega,aN.out,an.out,ad⟩
   have ai:hl.length=128:=by have:=eq_of_beq aH;omega
   clear aH;have bL:=hid ai;have b5:=au.out ai;have cg:I+128<9223372036854775808:=by have:=a5.out;omega
   have bO:=hid cg;rw[ai]at ah;clear ai bf au;have au:=hid b5;have ac:=hid ah;have az:=hid ax;have bD:=hid ad;clear b5 ah ax ad cg;have ck:p<W2.heap.size:=(Ai ac.out).1;go_upto_region 2 with(fail)
   refine Q3 (fun f W=>(f=false→Below W2.heap.size W2 W)∧(f=true→W.heap[p]? =some (.cells (Y4 H1 ((I+128:Nat):Int) (.slice a1 128 c1)) 283 (0,0))∧But p W2 W)) 16 [.v 19 (.pointer (some ⟨p,0,none⟩)),.v 20 (.pointer (some ⟨p,0,none⟩)),.v 21 (.pointer (some ⟨p,0,none⟩)),.v 22 (.pointer (some ⟨p,8,none⟩)),.v 23 (.agg #[.int .u64 (I:Nat),.int .u64 0]),.v 24 (.pointer (some ⟨p,0,none⟩)),.v 25 (.pointer (some ⟨p,0,none⟩)),.v 26 (.pointer (some ⟨p,11,none⟩)),.v 27 (.int .i64 128),.v 28 (.int .u64 128),.v 29 (.tuple #[.agg #[.int .u64 ((I+128:Nat):Int),.int .u64 0],.bool false]),.v 18 (.tuple #[.agg #[.int .u64 ((I+128:Nat):Int),.int .u64 0],.bool false]),.v 30 (.agg #[.int .u64 ((I+128:Nat):Int),.int .u64 0]),.v 31 (.bool false),.v 32 (.pointer (some ⟨p,0,none⟩)),.v 33 (.pointer (some ⟨p,8,none⟩)),.f none [] (fun _ _=>True)] (by exact⟨fun _ _ _ _ h=>h,trivial⟩) ⟨fun _=>Br.drew,fun h=>(by cases h)⟩ (fun f W W' h U=>⟨fun e=>(h.1 e).trans (U.mono (h.1 e).size),fun e=>⟨qe (h.2 e).1 U,(h.2 e).2.trans (But.of_below U)⟩⟩) ?_ ?_ ?_
   ·repeat' (with_reducible first|exact qx|refine qt ?_ ?_)
    all_goals try
     refine .inr ?_;intro A x W f G Y hf o D K J;have a0:=G.2 0 (by decide);conv at a0=>rhs;whnf
     simp only[QJ,QS]at D;clear o G;go_simp
     exact J _ _ BR rfl
    any_goals exact .inl rfl
    all_goals refine .inr ?_
    ·intro A x W f G Y hf o _ K J;have cR:=gw G o 3 22;clear o G;have aF:f=false:=hf (by kernel_rfl);have V:=qe ac.out (Y.1 aF);refine qV 281 _ rfl p 8 cR 283 _ #[.int .u64 (I:Nat),.int .u64 0] (0,0) _ V Tryz.underlying281 rfl (by kernel_rfl) (qcR _ _ _) (J _ _ Br rfl)
    ·intro A x W f G Y hf o _ K J;have c4:=gw G o 7 26;clear o G;have aF:f=false:=hf (by kernel_rfl);have V:=qe ac.out (Y.1 aF);have c0:W.cell? ⟨p,11,none⟩=some (.int .i64 128):=qa V 11;go_simp
     exact J _ _ BR rfl
    ·intro A x W f G Y hf o _ K J;have cY:=gw G o 4 23;have da:=gw G o 9 28;clear o G;go_simp
     refine(qcW I 128 bO.out _).mono ?_;rintro e w' ⟨rfl,U⟩;exact J _ _ U rfl
   ·intro A x W G Y o K J;have cx:=gw G o 15 33;have ct:=gw G o 12 30;clear o G;have V:=qe ac.out (Y.1 rfl);refine zD 281 _ _ rfl p 8 #[.int .u64 ((I+128:Nat):Int),.int .u64 0] cx ct 283 _ V (by kernel_rfl) (by simp[Y4]) (by simp[Value.oneCell']) ?_;rw[qeY];refine J _ _ (fun _=>rfl) ⟨fun h=>(by cases h),fun _=>⟨setRow_heap _ _ _ _ _ _ V,(But.of_below (Y.1 rfl)).trans (But.of_setRow _ _ _)⟩⟩ ⟨.inr (fun _ h=>h),.inr (fun _ h=>h),.inr (fun _ h=>h),.inr (fun _ h=>h),.inr (fun _ h=>h),.inr (fun _ h=>h),.inr (fun _ h=>h),.inr (fun _ h=>h),.inr (fun _ h=>h),.inr (fun _ h=>h),.inr (fun _ h=>h),.inr (fun _ h=>h),.inr (fun _ h=>h),.inr (fun _ h=>h),.inr (fun _ h=>h),.inr (fun _ h=>h),.inl rfl,trivial⟩ trivial
   intro x W Y aj;obtain⟨cn, -⟩:=aj;simp only[Qx,Act.put,Ls];obtain⟨bJ,aQ⟩:=Y.2 rfl;have cK:=aQ.size;have bw:W.ownsRow 0 5 1 (.slice a1 128 c1) 128 (hl.map qp):=by
    have h1:=az.out;rw[bL.out]at h1;exact yS h1 aQ ac.out (by decide)
   have be:Spare S w W:=bD.out.trans (Spare.of_but aQ) (fun b _ U=>by have h2:=HS.out;subst h2;exact U.1);have bS:Holds8 W (.slice a1 128 c1) hl:=QR bw;have ag:=hid bJ;have bH:=hid bw;have cd:=hid be;have bC:=hid bS;clear cn Y bJ aQ bw be bS x ac az bD cK ck;generalize W=W3 at*;clear W2;go_upto_region 3 with(fail)
   obtain⟨H2,aY⟩:=Ex (yk true H1 hl ((I+128:Nat):Int) false false);have bQ:Words 64 8 H2:=by rw[←aY];exact QH true aE.out _ _ _ _
   have aX:=qdy H1 hl aE.out (.slice a1 128 c1) (I+128) (by have:=bO.out;omega) false false;have aK:=au.out;rw[aY]at aX aK;have b7:=hid aX;have ci:=hid aK;have bm:=hid bQ;clear aX aY aK bQ au;have cl:p<W3.heap.size:=(Ai ag.out).1;refine qA (n:=18) (w0:=W3) (B:=W3.heap.size) [.v 34 (.pointer (some ⟨p,0,none⟩)),.v 35 (.pointer (some ⟨p,0,none⟩)),.v 36 (.pointer (some ⟨p,0,none⟩)),.v 37 (.pointer (some ⟨p,12,none⟩)),.v 38 (.func (.func 184) #[] #[]),.v 39 (.pointer (some ⟨p,0,none⟩)),.v 40 (.pointer (some ⟨p,0,none⟩)),.v 41 (.pointer (some ⟨p,0,none⟩)),.v 42 (.agg (qg .u64 H1)),.v 43 (.pointer (some ⟨p,0,none⟩)),.v 44 (.pointer (some ⟨p,0,none⟩)),.v 45 (.pointer (some ⟨p,10,none⟩)),.v 46 (.slice a1 128 c1),.v 47 (.pointer (some ⟨p,0,none⟩)),.v 48 (.pointer (some ⟨p,0,none⟩)),.v 49 (.pointer (some ⟨p,8,none⟩)),.v 50 (.agg #[.int .u64 ((I+128:Nat):Int),.int .u64 0]),.v 51 (.agg (qg .u64 H2))] trivial Br.drew Nl ?_ ?_
   ·repeat' (with_reducible first|exact qx|refine qt ?_ ?_)
    all_goals try
     intro A x W G hW ap o D K J;have a0:=G.2 0 (by decide);conv at a0=>rhs;whnf
     simp only[QJ,QS]at D;clear o G;go_simp
     exact J _ _ BR rfl
    ·intro A x W G hW ap o _ K J;have dj:=gv G o 3 37;clear o G;have V:=qe ag.out hW;have c0:W.cell? ⟨p,12,none⟩=some (.func (.func 184) #[] #[]):=qa V 12;go_simp
     exact J _ _ BR rfl
    ·intro A x W G hW ap o _ K J;have cG:=gv G o 7 41;clear o G;have V:=qe ag.out hW;refine qV 274 _ rfl p 0 cG 283 _ (qg .u64 H1) (0,0) _ V Tryz.underlying274 rfl (by rw[qd,aE.out.1];kernel_rfl) (qhc aE.out _ _) (J _ _ Br rfl)
    ·intro A x W G hW ap o _ K J;have de:=gv G o 11 45;clear o G;have V:=qe ag.out hW;have c0:W.cell? ⟨p,10,none⟩=some (.slice a1 128 c1):=qa V 10;go_simp
     exact J _ _ BR rfl
    ·intro A x W G hW ap o _ K J;have cw:=gv G o 15 49;clear o G;have V:=qe ag.out hW;refine qV 281 _ rfl p 8 cw 283 _ #[.int .u64 ((I+128:Nat):Int),.int .u64 0] (0,0) _ V Tryz.underlying281 rfl (by kernel_rfl) (qcR _ _ _) (J _ _ Br rfl)
    ·intro A x W G hW ap o _ K J;have db:=gv G o 4 38;have c6:=gv G o 8 42;have c5:=gv G o 12 46;have di:=gv G o 16 50;clear o G;go_simp
     refine(b7.out _ (bC.out.mono_below hW Nl) b4.out bL.out).mono ?_;rintro e w' ⟨rfl,U⟩;exact J _ _ U rfl
   intro x W hW ap aj;clear aj;refine qo ?_;simp only[Qx,Act.put,Ls];have bk:=qe ag.out hW;have bP:But p W3 W:=But.of_below hW;clear hW ap x;go_wp2_with fail
   refine qo ?_;go_wp2_with fail
   refine qo ?_;refine Y9 rfl 274 _ _ rfl p 0 (qg .u64 H2) rfl rfl 283 _ bk (by rw[qd,bm.out.1];kernel_rfl) (by rw[qd,bm.out.1];simp[Y4]) qw ?_;rw[qgf bm.out];refine qs ?_;have aG:=setRow_heap W p _ (Y4 H2 ((I+128:Nat):Int) (.slice a1 128 c1)) _ _ bk;have bi:=bP.trans (But.of_setRow W p (Y4 H2 ((I+128:Nat):Int) (.slice a1 128 c1)));generalize W.setRow p (Y4 H2 ((I+128:Nat):Int) (.slice a1 128 c1))=W5 at*;have b9:=yS bH.out bi ag.out (by decide);have bl:Spare S w W5:=cd.out.trans (Spare.of_but bi) (fun b _ U=>by have h2:=HS.out;subst h2;exact U.1);have a9:=hid b9;have cE:=hid bl;have ca:=hid aG;clear bk bP bi b9 bl b7 bH cd ag bC W cl W3;obtain⟨g1,rfl⟩:=ZG a9.out (by decide);obtain⟨cu, -, -, -, -,aA,a8⟩:=zg a9.out;have bR:(c1:Int)≤9223372036854775807:=by unfold maxLen at a8;omega
   have a6:128≤(c1:Int):=by omega
   have ao:W5.cell? ⟨p,10,none⟩=some (.slice (some ⟨g1,0,none⟩) 128 c1):=qa aG 10;have aB:=frozen_of_row W5 p 10 _ _ aG;have cT:p<W5.heap.size:=(Ai aG).1;clear aG a8;go_wp2
   go_meet
   case rel=>
    have ak:But p W5 (W5.setCell ⟨p,10,none⟩ (.slice (some ⟨g1,0,none⟩) 0 c1)):=(But.refl p W5).set 10 _;exact⟨rfl,H2,I+128,[],.slice (some ⟨g1,0,none⟩) 0 c1,heap_setCell_same W5 p 10 _ _ _ ca.out,qdu (yS a9.out ak ca.out (by decide)),by show 0<128;decide,ci.out,an.out,cE.out.trans (Spare.of_but ak) (fun b _ U=>by have h2:=HS.out;subst h2;exact U.1)⟩
  case rest=>
   clear ao aP aB b0 aH tb nq bp bo aE b4 a5 au aN bf a7;obtain⟨rfl,H2,ce,q,c8,aq,aR,bg,aV,br,ad⟩:=hcut;have cj:=al;clear an al;simp only[cond]at aq;have cS:q.length<128:=bg;obtain⟨a2,n2,c2,rfl⟩:=qu aR;obtain rfl:n2=q.length:=yF aR;obtain⟨k,hk⟩:=Ex (min N (128 - q.length));have HK:=hid hk;have ac:=hid aq;have az:=hid aR;have aN:=hid aV;have an:=hid br;have al:=hid ad;clear hk aR aV br ad bg;have ao:wc.cell? ⟨p,10,none⟩=some (.slice a2 q.length c2):=qa aq 10;have aP:wc.cell? ⟨p,11,none⟩=some (.int .i64 128):=qa aq 11;have cv:p<wc.heap.size:=(Ai aq).1;clear aq;go_upto_region 5 with(fail)
   go_quiet (fail)
   rw[show min (N:Int) (128 - (q.length:Int))=(k:Int) from by have:=HK.out;omega];have ak:Below wc.heap.size wc (wc.drewN nq):=QF nq;have aW:=qe ac.out ak;have bM:=qi az.out (fun g _ hg=>ak.block g hg);have aI:Spare S w (wc.drewN nq):=al.out.trans (Spare.of_below S ak) (fun _ _ h=>h);clear ak ao aP ac az al cv;generalize wc.drewN nq=W6 at*;clear wc;have bj:Hold W6 (.slice ab N cb) (O.drop j):=by
    have h1:=HH.out;have h2:=cF.out;have Z:=aO.out;rw[HN.out]at h2 Z;exact Y1 h2 HH.out Z cj.out aI (fun b U=>by have h4:=HS.out;subst h4;exact HF.out (fun e=>by rw[e]at af;simp at af) b U) (fun e=>by rw[e]at af;simp at af)
   obtain⟨X,hX⟩:=Ex ((O.drop j).take k);have aA:1≤k∧k≤N∧q.length+k≤128:=by have:=HK.out;omega
   have bv:X.length=k:=by rw[←hX,List.length_take,HN.out];omega
   have aZ:Hold W6 (.slice ab k cb) X:=by rw[←hX];exact qb2 bj (by rw[HN.out];omega)
   have bx:=aZ.src;rw[bv]at bx;have HX:=hid hX;have aT:=hid bv;have dg:=hid aZ;have cP:=hid bx;have cc:=hid bj;have bW:=hid aW;have cy:=hid bM;have aM:=hid aI;have cV:p<W6.heap.size:=(Ai aW).1;obtain⟨aA,a8,bR⟩:=aA;have a6:(k:Int)≤N∧(k:Int)≤cb∧1≤(k:Int):=by omega
   obtain⟨a6,dc,dh⟩:=a6;clear hX bv aZ bx bj aW bM aI;go_upto_region 6 with(fail)
   refine Yz (n:=9) (fun f W=>(f=false→Below W6.heap.size W6 W)∧(f=true→W.heap[p]? =some (.cells (Y4 H2 ((ce:Nat):Int) (.slice a2 q.length c2)) 283 (0,0))∧Spare (fun b=>(Value.slice a2 q.length c2).ownBlock≠some b) W6 W)) 8 [.v 75 (.pointer (some ⟨p,0,none⟩)),.v 76 (.pointer (some ⟨p,0,none⟩)),.v 77 (.pointer (some ⟨p,0,none⟩)),.v 78 (.pointer (some ⟨p,10,none⟩)),.v 79 (.slice a2 q.length c2),.v 80 (.slice ab N cb),.v 81 (.int .i64 (k:Nat)),.v 82 (.slice ab k cb),.p 83 (fun u W=>W.ownsRow 0 5 1 u (q.length+k) ((q++X).map qp)∧(u.ownBlock=(Value.slice a2 q.length c2).ownBlock∨ ∀g,u.ownBlock=some g→W6.heap.size≤g))] (by exact⟨(fun W W' U u h=>⟨qi h.1 (fun g _ hg=>U.block g hg),h.2⟩),trivial⟩) ⟨fun _=>Br.drew,fun h=>(by cases h)⟩ (fun f W W' h U=>⟨fun e=>(h.1 e).trans (U.mono (h.1 e).size),fun e=>⟨qe (h.2 e).1 U,(h.2 e).2.trans (Spare.of_below _ U) (fun _ _ h=>h)⟩⟩) ?_ ?_ ?_
   ·repeat' (with_reducible first|exact qx|refine qt ?_ ?_)
    all_goals try
     refine .inr ?_;intro A x W f G Y hf o D K J;have a0:=G.2 0 (by decide);conv at a0=>rhs;whnf
     have a1:=G.2 1 (by decide);conv at a1=>rhs;whnf
     have a4:=G.2 4 (by decide);conv at a4=>rhs;whnf
     simp only[QJ,QS]at D;clear o G;go_simp
     exact J _ _ BR rfl
    any_goals exact .inl rfl
    all_goals refine .inr ?_
    ·intro A x W f G Y hf o _ K J;have cZ:=gw G o 3 78;clear o G;have aF:f=false:=hf (by kernel_rfl);have V:=qe bW.out (Y.1 aF);have c0:W.cell? ⟨p,10,none⟩=some (.slice a2 q.length c2):=qa V 10;go_simp
     exact J _ _ BR rfl
   ·intro A x W G Y o K J;have cJ:=gw G o 4 79;have co:=gw G o 7 82;clear o G;have hB:=Y.1 rfl;have ho:=qi cy.out (fun g _ hg=>hB.block g hg);have V:=qe bW.out hB;refine Yf _ _ 24 rfl 0 5 i0 (.int .u8 0) 1 Tryz.underlying24 hi cD cH cL rfl (.slice a2 q.length c2) q.length (q.map qp) cJ ho (.slice ab k cb) k (X.map qp) co (cP.out.below hB) (by unfold maxLen;omega) (by omega) (Nat.zero_le _) ?_;intro v' w' h1 h2 Z;have h4:w'.heap[p]? =some (.cells (Y4 H2 ((ce:Nat):Int) (.slice a2 q.length c2)) 283 (0,0)):=(h2.block p (Ai V).1 (qcA ho V (by decide))).trans V;rw[←List.map_append]at h1;refine J v' w' (fun h=>by cases h) ⟨fun h=>(by cases h),fun _=>⟨h4,(Spare.of_below _ hB).trans (Spare.of_grown h2) (fun _ _ h=>h)⟩⟩ ⟨.inr (fun _ h=>h),.inr (fun _ h=>h),.inr (fun _ h=>h),.inr (fun _ h=>h),.inr (fun _ h=>h),.inr (fun _ h=>h),.inr (fun _ h=>h),.inr (fun _ h=>h),.inl rfl,trivial⟩ ⟨h1,?_⟩;rcases Z with Z|Z
    ·exact .inl Z
    ·refine .inr fun g hg=>?_
     rw[Z]at hg;cases hg;exact hB.size
   intro x W Y aj;obtain⟨ar, -⟩:=aj;change ((fun u W=>W.ownsRow 0 5 1 u (q.length+k) ((q++X).map qp)∧(u.ownBlock=(Value.slice a2 q.length c2).ownBlock∨ ∀g,u.ownBlock=some g→W6.heap.size≤g))) (x 83) W at ar
   obtain⟨ay,ba⟩:=Y.2 rfl;obtain⟨aC,aJ⟩:=ar;obtain⟨a3,n3,c3,ar⟩:=qu aC;rw[ar]at aC aJ;obtain rfl:n3=q.length+k:=yF aC;refine qo ?_;simp only[Qx,Act.put,Ls,ar];clear ar;have ao:W.cell? ⟨p,10,none⟩=some (.slice a2 q.length c2):=qa ay 10;have aB:=frozen_of_row W p 10 _ _ ay;have ch:p<W.heap.size:=(Ai ay).1;have b3:=hid ay;have cB:=hid aC;have cq:=hid aJ;have bh:=hid ba;clear ay aC aJ ba Y;go_wp2_with fail
   refine qo ?_;go_wp2_with fail
   refine qo ?_;go_wp2_with fail
   refine qs ?_;obtain⟨bb,ob,rfl⟩:=qb3 cc.out (fun e=>by have:=HN.out;rw[e]at this;simp at this;omega);have aU:But p W (W.setCell ⟨p,10,none⟩ (.slice a3 (q.length+k) c3)):=(But.refl p W).set 10 _;have cQ:=hid (heap_setCell_same W p 10 _ _ (.slice a3 (q.length+k) c3) b3.out);have cC:=hid (yS cB.out aU b3.out (by decide));have aL:Spare S w (W.setCell ⟨p,10,none⟩ (.slice a3 (q.length+k) c3)):=by
    refine(aM.out.trans bh.out ?_).trans (Spare.of_but aU) (fun b _ U=>by have h2:=HS.out;subst h2;exact U.1);intro b c7 av;have h2:=HS.out;subst h2;rcases an.out with Z|Z
    ·rw[Z];exact av.2
    ·intro e;have:=Z b e;omega
   have bT:Hold (W.setCell ⟨p,10,none⟩ (.slice a3 (q.length+k) c3)) (.slice (some ⟨bb,ob,none⟩) N cb) (O.drop j):=by
    have Z:=aO.out;exact Y1 cc.out HH.out Z aM.out aL (fun b U=>by have h4:=HS.out;subst h4;exact HF.out (fun e=>by rw[e]at af;simp at af) b U) (fun e=>by rw[e]at af;simp at af)
   have bd:=hid aL;have cz:=hid bT;clear aU aL bT ao aB ch;have cU:W6.heap.size≤(W.setCell ⟨p,10,none⟩ (.slice a3 (q.length+k) c3)).heap.size:=by have:=bh.out.size;simpa [World.setCell] using this
   generalize W.setCell ⟨p,10,none⟩ (.slice a3 (q.length+k) c3)=W8 at*;have cf:j+k≤O.length:=by have:=cI.out;have:=HN.out;omega
   have b6:QL true W8 p (.slice a3 (q.length+k) c3) h0 (ae++O.take (j+k)):=by
    have e0:ae++O.take (j+k)=m1++X:=by rw[←cO.out,←HX.out,List.append_assoc,List.take_add]
    obtain⟨e1,e2,e3⟩:=aN.out X (by rw[aT.out];omega) (by rw[aT.out];exact bR);rw[e0];unfold QL;rw[e1,e2,e3];exact⟨cQ.out,(show(q++X).length=q.length+k by rw[List.length_append,aT.out])▸cC.out⟩
   have bV:(Value.slice a3 (q.length+k) c3).ownBlock=hv.ownBlock∨ ∀g,(Value.slice a3 (q.length+k) c3).ownBlock=some g→w.heap.size≤g:=by
    rcases cq.out with Z|Z
    ·rw[Z];exact an.out
    ·exact .inr fun g hg=>Nat.le_trans aM.out.size (Z g hg)
   have bF:=hid b6;have bY:=hid bV;have bK:=hid (fun(a':Option Addr) (n' c':Nat) (hn:n'=(O.drop j).length - k) (hc:c'=cb - k) (h:a'=some ⟨bb,ob+k,none⟩∨a'=some ⟨bb,ob,none⟩∧cb=k)=>(show Hold W8 (.slice a' n' c') (O.drop (j+k)) by rw[←List.drop_drop];exact qb4 cz.out (k:=k) (by have:=HN.out;omega) hn hc bb ob rfl h));clear b6 bV;by_cases bE:cb=k
   case pos=>
    have bc:=bE;go_wp2
    refine⟨⟨j+k,cf,bK.out _ _ _ (by rw[HN.out]) (by omega) (.inr ⟨rfl,bc⟩),aO.out,⟨_,bF.out,bY.out⟩,bd.out⟩,?_⟩;show N - k<N
    omega
   case neg=>
    have bc:=bE;go_wp2
    refine⟨⟨j+k,cf,bK.out _ _ _ (by rw[HN.out]) (by omega) (.inl rfl),aO.out,⟨_,bF.out,bY.out⟩,bd.out⟩,?_⟩;show N - k<N
    omega
theorem JS (h0 ae O:List Int)(hh:Words 32 8 h0)(hm: ∀z∈ae,0≤z∧z≤255)(p:Nat)(hv v:Value)(w:World)(hE:QL false w p hv h0 ae)(hH:Hold w v O)(hF:O≠[]→ ∀b,v.ownBlock=some b→Y7 p hv b)(cW:(ae.length:Int)+O.length≤140737488355328):
  Calls Tryz.prog 266 #[.pointer (some ⟨p,0,none⟩),v] w fun e w'=>e= .returned (.tuple #[])∧(∃am,QL false w' p am h0 (ae++O)∧(am.ownBlock=hv.ownBlock∨ ∀g,am.ownBlock=some g→w.heap.size≤g))∧Spare (Y7 p hv) w w':=by
 obtain⟨i0,hi,cD,cH,cL⟩:=info_parts Qy;have df:p<w.heap.size:=(Ai hE.1).1;have cM:=hid hh;have cA:=hid hm;have HE:=hid hE;have HH:=hid hH;have HF:=hid hF;have b8:=hH.1;have HZ:=hid b8;clear hh hm hE hH hF b8;obtain⟨S,hS⟩:=Ex (Y7 p hv);have HS:=hid hS;rw[hS];clear hS;go_enter Tryz.func266,Tryz.ntmps266
 go_wp2_with fail
 go_loopw [1] (fun b wr=> ∃j:Nat,j≤O.length∧Hold wr b (O.drop j)∧b.ownBlock=v.ownBlock∧(∃am,QL false wr p am h0 (ae++O.take j)∧(am.ownBlock=hv.ownBlock∨ ∀g,am.ownBlock=some g→w.heap.size≤g))∧Spare S w wr) (fun b _=>lenV b)
 case atStart=>exact⟨0,Nat.zero_le _,by simpa using HH.out,rfl,⟨hv,by simpa using HE.out,.inl rfl⟩,Spare.refl _ _⟩
 case round=>
  obtain⟨j,hj,bq,bU,⟨cp,bG,aS⟩,bA⟩:=hrel;have cF:=hid bq;have al:=hid bA;have a7:=hid bG;have aO:=hid bU;have an:=hid aS;obtain⟨ab,cb,rfl,cm,cX⟩:=bq.slice;clear bq bA bG bU aS;by_cases af:j<O.length
  case neg=>
   obtain rfl:j=O.length:=by omega
   have aA:(O.drop O.length).length=0:=by simp
   rw[aA]at*;go_wp2
   go_end0
   have h1:=a7.out;rw[List.take_length]at h1;exact⟨rfl,⟨cp,h1,an.out⟩,al.out⟩
  have bZ:(O.drop j).length=O.length - j:=by simp
  have cN:0<(O.drop j).length:=by omega
  have q:((O.drop j).length:Int)≤140737488355328:=by omega
  obtain⟨m1,aD⟩:=Ex (ae++O.take j);have dd:m1.length≤140737488355328:=by rw[←aD];simp;omega
  have bt: ∀z∈m1,0≤z∧z≤255:=by
   rw[←aD];intro z hz;rcases List.mem_append.1 hz with hz|hz
   ·exact cA.out z hz
   ·exact HZ.out z (List.mem_of_mem_take hz)
  have c9:=hid bt;have cI:=hid bZ;have bX:=a7.out;rw[aD]at bX;have cO:=hid aD;obtain⟨N,hN⟩:=Ex ((O.drop j).length);rw[hN]at cN q cm⊢;have HN:=hid hN;have bu:=Jf (Ys false) m1;have bz:=qbV false h0 m1;have bn:=qbW false h0 m1;have bf:=ZM (Ys false) m1;have bI:=YT (n:=bB false) bt;have bN:=yD false cM.out m1 (nbk (bB false) m1.length);obtain⟨aa,aw⟩:=bX;simp only[cond]at aa;generalize stZ false h0 m1 (nbk (bB false) m1.length)=H1 at*;generalize bB false*nbk (bB false) m1.length=I at*;generalize Q1 (bB false) m1=hl at*;rw[show bB false=64 from rfl]at bn bf;obtain⟨a1,n1,c1,rfl⟩:=qu aw;have cr:n1=hl.length:=yF aw;subst cr;have aN:=hid bz;have au:=hid bn;have a5:=hid bu;have b4:=hid bI;have aE:=hid bN;have bp:=hid aa;have bo:=hid aw;have ao:wr.cell? ⟨p,10,none⟩=some (.slice a1 hl.length c1):=qa aa 10;have aP:wr.cell? ⟨p,11,none⟩=some (.int .i64 64):=qa aa 11;have aB:=frozen_of_row wr p 10 _ _ aa;have b0:=frozen_of_row wr p 11 _ _ aa;clear aa aw bN bI bu bn bz aD bt bZ hN;go_upto_region 1 with(fail)
  obtain⟨tb,aH⟩: ∃tb,((hl.length:Int)==64)=tb:=⟨_,rfl⟩;go_quiet (fail)
  go_upto_if 17 with(fail)
  go_cut [1] from 4 (fun b W=>b= .slice ab N cb∧qh9 false w S p hv h0 m1 W)
  case first=>
   have av:Below wr.heap.size wr (wr.drewN nq):=QF nq;have ah:=qe bp.out av;have ax:=qi bo.out (fun g _ hg=>av.block g hg);have ad:Spare S w (wr.drewN nq):=al.out.trans (Spare.of_below S av) (fun _ _ h=>h);clear av ao aP aB b0;generalize wr.drewN nq=W2 at*
   cases tb
   case false=>
    have HT:=hid aH;clear aH;go_wp2
    go_meet
    case rel=>exact⟨rfl,H1,I,hl,_,ah,ax,by have:=beq_eq_false_iff_ne.1 HT.out;show hl.length<64;omega,aN.out,an.out,ad⟩
   have ai:hl.length=64:=by have:=eq_of_beq aH;omega
   clear aH;have bL:=hid ai;have b5:=au.out ai;have cg:I+64<9223372036854775808:=by have:=a5.out;omega
   have bO:=hid cg;rw[ai]at ah;clear ai bf au;have au:=hid b5;have ac:=hid ah;have az:=hid ax;have bD:=hid ad;clear b5 ah ax ad cg;have ck:p<W2.heap.size:=(Ai ac.out).1;go_upto_region 2 with(fail)
   refine Q3 (fun f W=>(f=false→Below W2.heap.size W2 W)∧(f=true→W.heap[p]? =some (.cells (Y3 H1 ((I+64:Nat):Int) (.slice a1 64 c1)) 291 (0,0))∧But p W2 W)) 16 [.v 19 (.pointer (some ⟨p,0,none⟩)),.v 20 (.pointer (some ⟨p,0,none⟩)),.v 21 (.pointer (some ⟨p,0,none⟩)),.v 22 (.pointer (some ⟨p,8,none⟩)),.v 23 (.agg #[.int .u64 (I:Nat),.int .u64 0]),.v 24 (.pointer (some ⟨p,0,none⟩)),.v 25 (.pointer (some ⟨p,0,none⟩)),.v 26 (.pointer (some ⟨p,11,none⟩)),.v 27 (.int .i64 64),.v 28 (.int .u64 64),.v 29 (.tuple #[.agg #[.int .u64 ((I+64:Nat):Int),.int .u64 0],.bool false]),.v 18 (.tuple #[.agg #[.int .u64 ((I+64:Nat):Int),.int .u64 0],.bool false]),.v 30 (.agg #[.int .u64 ((I+64:Nat):Int),.int .u64 0]),.v 31 (.bool false),.v 32 (.pointer (some ⟨p,0,none⟩)),.v 33 (.pointer (some ⟨p,8,none⟩)),.f none [] (fun _ _=>True)] (by exact⟨fun _ _ _ _ h=>h,trivial⟩) ⟨fun _=>Br.drew,fun h=>(by cases h)⟩ (fun f W W' h U=>⟨fun e=>(h.1 e).trans (U.mono (h.1 e).size),fun e=>⟨qe (h.2 e).1 U,(h.2 e).2.trans (But.of_below U)⟩⟩) ?_ ?_ ?_
   ·repeat' (with_reducible first|exact qx|refine qt ?_ ?_)
    all_goals try
     refine .inr ?_;intro A x W f G Y hf o D K J;have a0:=G.2 0 (by decide);conv at a0=>rhs;whnf
     simp only[QJ,QS]at D;clear o G;go_simp
     exact J _ _ BR rfl
    any_goals exact .inl rfl
    all_goals refine .inr ?_
    ·intro A x W f G Y hf o _ K J;have cR:=gw G o 3 22;clear o G;have aF:f=false:=hf (by kernel_rfl);have V:=qe ac.out (Y.1 aF);refine qV 281 _ rfl p 8 cR 291 _ #[.int .u64 (I:Nat),.int .u64 0] (0,0) _ V Tryz.underlying281 rfl (by kernel_rfl) (qcQ _ _ _) (J _ _ Br rfl)
    ·intro A x W f G Y hf o _ K J;have c4:=gw G o 7 26;clear o G;have aF:f=false:=hf (by kernel_rfl);have V:=qe ac.out (Y.1 aF);have c0:W.cell? ⟨p,11,none⟩=some (.int .i64 64):=qa V 11;go_simp
     exact J _ _ BR rfl
    ·intro A x W f G Y hf o _ K J;have cY:=gw G o 4 23;have da:=gw G o 9 28;clear o G;go_simp
     refine(qcW I 64 bO.out _).mono ?_;rintro e w' ⟨rfl,U⟩;exact J _ _ U rfl
   ·intro A x W G Y o K J;have cx:=gw G o 15 33;have ct:=gw G o 12 30;clear o G;have V:=qe ac.out (Y.1 rfl);refine zD 281 _ _ rfl p 8 #[.int .u64 ((I+64:Nat):Int),.int .u64 0] cx ct 291 _ V (by kernel_rfl) (by simp[Y3]) (by simp[Value.oneCell']) ?_;rw[qeX];refine J _ _ (fun _=>rfl) ⟨fun h=>(by cases h),fun _=>⟨setRow_heap _ _ _ _ _ _ V,(But.of_below (Y.1 rfl)).trans (But.of_setRow _ _ _)⟩⟩ ⟨.inr (fun _ h=>h),.inr (fun _ h=>h),.inr (fun _ h=>h),.inr (fun _ h=>h),.inr (fun _ h=>h),.inr (fun _ h=>h),.inr (fun _ h=>h),.inr (fun _ h=>h),.inr (fun _ h=>h),.inr (fun _ h=>h),.inr (fun _ h=>h),.inr (fun _ h=>h),.inr (fun _ h=>h),.inr (fun _ h=>h),.inr (fun _ h=>h),.inr (fun _ h=>h),.inl rfl,trivial⟩ trivial
   intro x W Y aj;obtain⟨cn, -⟩:=aj;simp only[Qx,Act.put,Ls];obtain⟨bJ,aQ⟩:=Y.2 rfl;have cK:=aQ.size;have bw:W.ownsRow 0 5 1 (.slice a1 64 c1) 64 (hl.map qp):=by
    have h1:=az.out;rw[bL.out]at h1;exact yS h1 aQ ac.out (by decide)
   have be:Spare S w W:=bD.out.trans (Spare.of_but aQ) (fun b _ U=>by have h2:=HS.out;subst h2;exact U.1);have bS:Holds8 W (.slice a1 64 c1) hl:=QR bw;have ag:=hid bJ;have bH:=hid bw;have cd:=hid be;have bC:=hid bS;clear cn Y bJ aQ bw be bS x ac az bD cK ck;generalize W=W3 at*;clear W2;go_upto_region 3 with(fail)
   obtain⟨H2,aY⟩:=Ex (yk false H1 hl ((I+64:Nat):Int) false false);have bQ:Words 32 8 H2:=by rw[←aY];exact QH false aE.out _ _ _ _
   have aX:=qbX H1 hl aE.out (.slice a1 64 c1) (I+64) (by have:=bO.out;omega) false false;have aK:=au.out;rw[aY]at aX aK;have b7:=hid aX;have ci:=hid aK;have bm:=hid bQ;clear aX aY aK bQ au;have cl:p<W3.heap.size:=(Ai ag.out).1;refine qA (n:=18) (w0:=W3) (B:=W3.heap.size) [.v 34 (.pointer (some ⟨p,0,none⟩)),.v 35 (.pointer (some ⟨p,0,none⟩)),.v 36 (.pointer (some ⟨p,0,none⟩)),.v 37 (.pointer (some ⟨p,12,none⟩)),.v 38 (.func (.func 187) #[] #[]),.v 39 (.pointer (some ⟨p,0,none⟩)),.v 40 (.pointer (some ⟨p,0,none⟩)),.v 41 (.pointer (some ⟨p,0,none⟩)),.v 42 (.agg (qg .u32 H1)),.v 43 (.pointer (some ⟨p,0,none⟩)),.v 44 (.pointer (some ⟨p,0,none⟩)),.v 45 (.pointer (some ⟨p,10,none⟩)),.v 46 (.slice a1 64 c1),.v 47 (.pointer (some ⟨p,0,none⟩)),.v 48 (.pointer (some ⟨p,0,none⟩)),.v 49 (.pointer (some ⟨p,8,none⟩)),.v 50 (.agg #[.int .u64 ((I+64:Nat):Int),.int .u64 0]),.v 51 (.agg (qg .u32 H2))] trivial Br.drew Nl ?_ ?_
   ·repeat' (with_reducible first|exact qx|refine qt ?_ ?_)
    all_goals try
     intro A x W G hW ap o D K J;have a0:=G.2 0 (by decide);conv at a0=>rhs;whnf
     simp only[QJ,QS]at D;clear o G;go_simp
     exact J _ _ BR rfl
    ·intro A x W G hW ap o _ K J;have dj:=gv G o 3 37;clear o G;have V:=qe ag.out hW;have c0:W.cell? ⟨p,12,none⟩=some (.func (.func 187) #[] #[]):=qa V 12;go_simp
     exact J _ _ BR rfl
    ·intro A x W G hW ap o _ K J;have cG:=gv G o 7 41;clear o G;have V:=qe ag.out hW;refine qV 284 _ rfl p 0 cG 291 _ (qg .u32 H1) (0,0) _ V Tryz.underlying284 rfl (by rw[qd,aE.out.1];kernel_rfl) (qhb aE.out _ _) (J _ _ Br rfl)
    ·intro A x W G hW ap o _ K J;have de:=gv G o 11 45;clear o G;have V:=qe ag.out hW;have c0:W.cell? ⟨p,10,none⟩=some (.slice a1 64 c1):=qa V 10;go_simp
     exact J _ _ BR rfl
    ·intro A x W G hW ap o _ K J;have cw:=gv G o 15 49;clear o G;have V:=qe ag.out hW;refine qV 281 _ rfl p 8 cw 291 _ #[.int .u64 ((I+64:Nat):Int),.int .u64 0] (0,0) _ V Tryz.underlying281 rfl (by kernel_rfl) (qcQ _ _ _) (J _ _ Br rfl)
    ·intro A x W G hW ap o _ K J;have db:=gv G o 4 38;have c6:=gv G o 8 42;have c5:=gv G o 12 46;have di:=gv G o 16 50;clear o G;go_simp
     refine(b7.out _ (bC.out.mono_below hW Nl) b4.out bL.out).mono ?_;rintro e w' ⟨rfl,U⟩;exact J _ _ U rfl
   intro x W hW ap aj;clear aj;refine qo ?_;simp only[Qx,Act.put,Ls];have bk:=qe ag.out hW;have bP:But p W3 W:=But.of_below hW;clear hW ap x;go_wp2_with fail
   refine qo ?_;go_wp2_with fail
   refine qo ?_;refine Y9 rfl 284 _ _ rfl p 0 (qg .u32 H2) rfl rfl 291 _ bk (by rw[qd,bm.out.1];kernel_rfl) (by rw[qd,bm.out.1];simp[Y3]) qw ?_;rw[qge bm.out];refine qs ?_;have aG:=setRow_heap W p _ (Y3 H2 ((I+64:Nat):Int) (.slice a1 64 c1)) _ _ bk;have bi:=bP.trans (But.of_setRow W p (Y3 H2 ((I+64:Nat):Int) (.slice a1 64 c1)));generalize W.setRow p (Y3 H2 ((I+64:Nat):Int) (.slice a1 64 c1))=W5 at*;have b9:=yS bH.out bi ag.out (by decide);have bl:Spare S w W5:=cd.out.trans (Spare.of_but bi) (fun b _ U=>by have h2:=HS.out;subst h2;exact U.1);have a9:=hid b9;have cE:=hid bl;have ca:=hid aG;clear bk bP bi b9 bl b7 bH cd ag bC W cl W3;obtain⟨g1,rfl⟩:=ZG a9.out (by decide);obtain⟨cu, -, -, -, -,aA,a8⟩:=zg a9.out;have bR:(c1:Int)≤9223372036854775807:=by unfold maxLen at a8;omega
   have a6:64≤(c1:Int):=by omega
   have ao:W5.cell? ⟨p,10,none⟩=some (.slice (some ⟨g1,0,none⟩) 64 c1):=qa aG 10;have aB:=frozen_of_row W5 p 10 _ _ aG;have cT:p<W5.heap.size:=(Ai aG).1;clear aG a8;go_wp2
   go_meet
   case rel=>
    have ak:But p W5 (W5.setCell ⟨p,10,none⟩ (.slice (some ⟨g1,0,none⟩) 0 c1)):=(But.refl p W5).set 10 _;exact⟨rfl,H2,I+64,[],.slice (some ⟨g1,0,none⟩) 0 c1,heap_setCell_same W5 p 10 _ _ _ ca.out,qdu (yS a9.out ak ca.out (by decide)),by show 0<64;decide,ci.out,an.out,cE.out.trans (Spare.of_but ak) (fun b _ U=>by have h2:=HS.out;subst h2;exact U.1)⟩
  case rest=>
   clear ao aP aB b0 aH tb nq bp bo aE b4 a5 au aN bf a7;obtain⟨rfl,H2,ce,q,c8,aq,aR,bg,aV,br,ad⟩:=hcut;have cj:=al;clear an al;simp only[cond]at aq;have cS:q.length<64:=bg;obtain⟨a2,n2,c2,rfl⟩:=qu aR;obtain rfl:n2=q.length:=yF aR;obtain⟨k,hk⟩:=Ex (min N (64 - q.length));have HK:=hid hk;have ac:=hid aq;have az:=hid aR;have aN:=hid aV;have an:=hid br;have al:=hid ad;clear hk aR aV br ad bg;have ao:wc.cell? ⟨p,10,none⟩=some (.slice a2 q.length c2):=qa aq 10;have aP:wc.cell? ⟨p,11,none⟩=some (.int .i64 64):=qa aq 11;have cv:p<wc.heap.size:=(Ai aq).1;clear aq;go_upto_region 5 with(fail)
   go_quiet (fail)
   rw[show min (N:Int) (64 - (q.length:Int))=(k:Int) from by have:=HK.out;omega];have ak:Below wc.heap.size wc (wc.drewN nq):=QF nq;have aW:=qe ac.out ak;have bM:=qi az.out (fun g _ hg=>ak.block g hg);have aI:Spare S w (wc.drewN nq):=al.out.trans (Spare.of_below S ak) (fun _ _ h=>h);clear ak ao aP ac az al cv;generalize wc.drewN nq=W6 at*;clear wc;have bj:Hold W6 (.slice ab N cb) (O.drop j):=by
    have h1:=HH.out;have h2:=cF.out;have Z:=aO.out;rw[HN.out]at h2 Z;exact Y1 h2 HH.out Z cj.out aI (fun b U=>by have h4:=HS.out;subst h4;exact HF.out (fun e=>by rw[e]at af;simp at af) b U) (fun e=>by rw[e]at af;simp at af)
   obtain⟨X,hX⟩:=Ex ((O.drop j).take k);have aA:1≤k∧k≤N∧q.length+k≤64:=by have:=HK.out;omega
   have bv:X.length=k:=by rw[←hX,List.length_take,HN.out];omega
   have aZ:Hold W6 (.slice ab k cb) X:=by rw[←hX];exact qb2 bj (by rw[HN.out];omega)
   have bx:=aZ.src;rw[bv]at bx;have HX:=hid hX;have aT:=hid bv;have dg:=hid aZ;have cP:=hid bx;have cc:=hid bj;have bW:=hid aW;have cy:=hid bM;have aM:=hid aI;have cV:p<W6.heap.size:=(Ai aW).1;obtain⟨aA,a8,bR⟩:=aA;have a6:(k:Int)≤N∧(k:Int)≤cb∧1≤(k:Int):=by omega
   obtain⟨a6,dc,dh⟩:=a6;clear hX bv aZ bx bj aW bM aI;go_upto_region 6 with(fail)
   refine Yz (n:=9) (fun f W=>(f=false→Below W6.heap.size W6 W)∧(f=true→W.heap[p]? =some (.cells (Y3 H2 ((ce:Nat):Int) (.slice a2 q.length c2)) 291 (0,0))∧Spare (fun b=>(Value.slice a2 q.length c2).ownBlock≠some b) W6 W)) 8 [.v 75 (.pointer (some ⟨p,0,none⟩)),.v 76 (.pointer (some ⟨p,0,none⟩)),.v 77 (.pointer (some ⟨p,0,none⟩)),.v 78 (.pointer (some ⟨p,10,none⟩)),.v 79 (.slice a2 q.length c2),.v 80 (.slice ab N cb),.v 81 (.int .i64 (k:Nat)),.v 82 (.slice ab k cb),.p 83 (fun u W=>W.ownsRow 0 5 1 u (q.length+k) ((q++X).map qp)∧(u.ownBlock=(Value.slice a2 q.length c2).ownBlock∨ ∀g,u.ownBlock=some g→W6.heap.size≤g))] (by exact⟨(fun W W' U u h=>⟨qi h.1 (fun g _ hg=>U.block g hg),h.2⟩),trivial⟩) ⟨fun _=>Br.drew,fun h=>(by cases h)⟩ (fun f W W' h U=>⟨fun e=>(h.1 e).trans (U.mono (h.1 e).size),fun e=>⟨qe (h.2 e).1 U,(h.2 e).2.trans (Spare.of_below _ U) (fun _ _ h=>h)⟩⟩) ?_ ?_ ?_
   ·repeat' (with_reducible first|exact qx|refine qt ?_ ?_)
    all_goals try
     refine .inr ?_;intro A x W f G Y hf o D K J;have a0:=G.2 0 (by decide);conv at a0=>rhs;whnf
     have a1:=G.2 1 (by decide);conv at a1=>rhs;whnf
     have a4:=G.2 4 (by decide);conv at a4=>rhs;whnf
     simp only[QJ,QS]at D;clear o G;go_simp
     exact J _ _ BR rfl
    any_goals exact .inl rfl
    all_goals refine .inr ?_
    ·intro A x W f G Y hf o _ K J;have cZ:=gw G o 3 78;clear o G;have aF:f=false:=hf (by kernel_rfl);have V:=qe bW.out (Y.1 aF);have c0:W.cell? ⟨p,10,none⟩=some (.slice a2 q.length c2):=qa V 10;go_simp
     exact J _ _ BR rfl
   ·intro A x W G Y o K J;have cJ:=gw G o 4 79;have co:=gw G o 7 82;clear o G;have hB:=Y.1 rfl;have ho:=qi cy.out (fun g _ hg=>hB.block g hg);have V:=qe bW.out hB;refine Yf _ _ 24 rfl 0 5 i0 (.int .u8 0) 1 Tryz.underlying24 hi cD cH cL rfl (.slice a2 q.length c2) q.length (q.map qp) cJ ho (.slice ab k cb) k (X.map qp) co (cP.out.below hB) (by unfold maxLen;omega) (by omega) (Nat.zero_le _) ?_;intro v' w' h1 h2 Z;have h4:w'.heap[p]? =some (.cells (Y3 H2 ((ce:Nat):Int) (.slice a2 q.length c2)) 291 (0,0)):=(h2.block p (Ai V).1 (qcA ho V (by decide))).trans V;rw[←List.map_append]at h1;refine J v' w' (fun h=>by cases h) ⟨fun h=>(by cases h),fun _=>⟨h4,(Spare.of_below _ hB).trans (Spare.of_grown h2) (fun _ _ h=>h)⟩⟩ ⟨.inr (fun _ h=>h),.inr (fun _ h=>h),.inr (fun _ h=>h),.inr (fun _ h=>h),.inr (fun _ h=>h),.inr (fun _ h=>h),.inr (fun _ h=>h),.inr (fun _ h=>h),.inl rfl,trivial⟩ ⟨h1,?_⟩;rcases Z with Z|Z
    ·exact .inl Z
    ·refine .inr fun g hg=>?_
     rw[Z]at hg;cases hg;exact hB.size
   intro x W Y aj;obtain⟨ar, -⟩:=aj;change ((fun u W=>W.ownsRow 0 5 1 u (q.length+k) ((q++X).map qp)∧(u.ownBlock=(Value.slice a2 q.length c2).ownBlock∨ ∀g,u.ownBlock=some g→W6.heap.size≤g))) (x 83) W at ar
   obtain⟨ay,ba⟩:=Y.2 rfl;obtain⟨aC,aJ⟩:=ar;obtain⟨a3,n3,c3,ar⟩:=qu aC;rw[ar]at aC aJ;obtain rfl:n3=q.length+k:=yF aC;refine qo ?_;simp only[Qx,Act.put,Ls,ar];clear ar;have ao:W.cell? ⟨p,10,none⟩=some (.slice a2 q.length c2):=qa ay 10;have aB:=frozen_of_row W p 10 _ _ ay;have ch:p<W.heap.size:=(Ai ay).1;have b3:=hid ay;have cB:=hid aC;have cq:=hid aJ;have bh:=hid ba;clear ay aC aJ ba Y;go_wp2_with fail
   refine qo ?_;go_wp2_with fail
   refine qo ?_;go_wp2_with fail
   refine qs ?_;obtain⟨bb,ob,rfl⟩:=qb3 cc.out (fun e=>by have:=HN.out;rw[e]at this;simp at this;omega);have aU:But p W (W.setCell ⟨p,10,none⟩ (.slice a3 (q.length+k) c3)):=(But.refl p W).set 10 _;have cQ:=hid (heap_setCell_same W p 10 _ _ (.slice a3 (q.length+k) c3) b3.out);have cC:=hid (yS cB.out aU b3.out (by decide));have aL:Spare S w (W.setCell ⟨p,10,none⟩ (.slice a3 (q.length+k) c3)):=by
    refine(aM.out.trans bh.out ?_).trans (Spare.of_but aU) (fun b _ U=>by have h2:=HS.out;subst h2;exact U.1);intro b c7 av;have h2:=HS.out;subst h2;rcases an.out with Z|Z
    ·rw[Z];exact av.2
    ·intro e;have:=Z b e;omega
   have bT:Hold (W.setCell ⟨p,10,none⟩ (.slice a3 (q.length+k) c3)) (.slice (some ⟨bb,ob,none⟩) N cb) (O.drop j):=by
    have Z:=aO.out;exact Y1 cc.out HH.out Z aM.out aL (fun b U=>by have h4:=HS.out;subst h4;exact HF.out (fun e=>by rw[e]at af;simp at af) b U) (fun e=>by rw[e]at af;simp at af)
   have bd:=hid aL;have cz:=hid bT;clear aU aL bT ao aB ch;have cU:W6.heap.size≤(W.setCell ⟨p,10,none⟩ (.slice a3 (q.length+k) c3)).heap.size:=by have:=bh.out.size;simpa [World.setCell] using this
   generalize W.setCell ⟨p,10,none⟩ (.slice a3 (q.length+k) c3)=W8 at*;have cf:j+k≤O.length:=by have:=cI.out;have:=HN.out;omega
   have b6:QL false W8 p (.slice a3 (q.length+k) c3) h0 (ae++O.take (j+k)):=by
    have e0:ae++O.take (j+k)=m1++X:=by rw[←cO.out,←HX.out,List.append_assoc,List.take_add]
    obtain⟨e1,e2,e3⟩:=aN.out X (by rw[aT.out];omega) (by rw[aT.out];exact bR);rw[e0];unfold QL;rw[e1,e2,e3];exact⟨cQ.out,(show(q++X).length=q.length+k by rw[List.length_append,aT.out])▸cC.out⟩
   have bV:(Value.slice a3 (q.length+k) c3).ownBlock=hv.ownBlock∨ ∀g,(Value.slice a3 (q.length+k) c3).ownBlock=some g→w.heap.size≤g:=by
    rcases cq.out with Z|Z
    ·rw[Z];exact an.out
    ·exact .inr fun g hg=>Nat.le_trans aM.out.size (Z g hg)
   have bF:=hid b6;have bY:=hid bV;have bK:=hid (fun(a':Option Addr) (n' c':Nat) (hn:n'=(O.drop j).length - k) (hc:c'=cb - k) (h:a'=some ⟨bb,ob+k,none⟩∨a'=some ⟨bb,ob,none⟩∧cb=k)=>(show Hold W8 (.slice a' n' c') (O.drop (j+k)) by rw[←List.drop_drop];exact qb4 cz.out (k:=k) (by have:=HN.out;omega) hn hc bb ob rfl h));clear b6 bV;by_cases bE:cb=k
   case pos=>
    have bc:=bE;go_wp2
    refine⟨⟨j+k,cf,bK.out _ _ _ (by rw[HN.out]) (by omega) (.inr ⟨rfl,bc⟩),aO.out,⟨_,bF.out,bY.out⟩,bd.out⟩,?_⟩;show N - k<N
    omega
   case neg=>
    have bc:=bE;go_wp2
    refine⟨⟨j+k,cf,bK.out _ _ _ (by rw[HN.out]) (by omega) (.inl rfl),aO.out,⟨_,bF.out,bY.out⟩,bd.out⟩,?_⟩;show N - k<N
    omega
end Go.Proofs.YthjoojnlnlmljaaGreat
