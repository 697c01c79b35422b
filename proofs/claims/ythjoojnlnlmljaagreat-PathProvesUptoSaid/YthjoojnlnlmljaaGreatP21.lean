/- Parts of rows: loaded, stored; noughts appended where there is room. No condition. -/
import Derived.Test.YthjoojnlnlmljaaGreatP15
import Derived.Laws.CopyRow
import Derived.Laws.MakeOwn
import Derived.Test.YthjoojnlnlmljaaGreatP20
import Derived.Laws.Externs
import Derived.Test.YthjoojnlnlmljaaGreatP17
import Derived.Test.YthjoojnlnlmljaaGreatP16
set_option linter.all false
set_option maxRecDepth 100000
set_option maxHeartbeats 8000000
namespace Go.Proofs.YthjoojnlnlmljaaGreat
open Go Go.ChangeShapes Go.WideShapes Go.ChangeAt Go.RowKit Go.Joins Go.Shelf Go.Maps
open Go.Lib (hid)
theorem J6 {P:Program}(w:World)(t Z ty e:TypeId)(k:IntKind)(i:TypeInfo)(z:Value)(ht:P.underlying t=some (.slice e))(I:P.underlying Z=some (.int k))(X:P.info? e=some i)(hz:i.zero=some z)(D:i.size=1)(ab:z.cells= #[z])
  (g n G m:Nat) (r:Array Value) (hg:w.heap[g]? =some (.cells r e (0,0))) (o:n+m≤G) (O:n+m≤r.size) (hm:(m:Int)<9223372036854775808) (hb:(m:Int)*i.bytes≤281474976710656) (h1:z.oneCell'=true):
  (Builtin.append_ #[t,Z] ty #[.slice (some ⟨g,0,none⟩) n G,.int .i64 (m:Int)]).run P w=
   .ok (.slice (some ⟨g,0,none⟩) (n+m) G) (w.setRow g (r.toList.take n++List.replicate m z++r.toList.drop (n+m)).toArray):=by
 have hw:IntKind.i64.wrap (m:Int)=(m:Int):=by rw[IntKind.wrap_i64];omega
 have V: ¬(m:Int)<0:=by omega
 have Y: ¬(m:Int)*(i.bytes:Int)>281474976710656:=by omega
 have q:=run_storeCells_at P g n e (List.replicate m z) 0 r w hg (by simpa using O) (fun v hv=>by rw[List.eq_of_mem_replicate hv];exact h1);simp only[Nat.add_zero,List.length_replicate]at q;by_cases U:m=0
 ·subst U;simp only[List.replicate_zero]at q⊢;have aa:IntKind.i64.wrap 0=0:=rfl;simp only[Nat.add_zero]at o;simp[Builtin.append_,run_underlying ht,run_underlying I,sizeOf,typeInfo,X,D,asInt,asIntOf,aa,o,Addr.add_lit]at q⊢
  rw[q];rfl
 ·have J:(Builtin.zeroCells #[z] m).toList=List.replicate m z:=by
   simp[Builtin.zeroCells,Nat.mod_one]
   apply List.ext_getElem?
   intro j;simp only[List.getElem?_map,List.getElem?_range',List.getElem?_replicate];by_cases hj:j<m<;>simp[hj,Nat.mod_one]
  simp[Builtin.append_,run_underlying ht,run_underlying I,sizeOf,typeInfo,X,D,asInt,asIntOf,hw,V,Y,o,U,zeroValue,hz,ab,J,Addr.add_lit,q]
theorem jR {P:Program}{w:World}{ops:Array Oper}{o:Oper}{l:List Oper}{a:Act}{Q:Exit→Act→World→Prop}(U:o.guard=none)(s x:Operand)(t I:TypeId)
  (ho:o.op= .call { callee:= .builtin .append,args:= #[s,x],argTypes:= #[t,I] }) (e:TypeId) (k:IntKind) (i:TypeInfo) (z:Value) (ht:P.underlying t=some (.slice e)) (V:P.underlying I=some (.int k)) (hi:P.info? e=some i) (hz:i.zero=some z) (D:i.size=1) (X:z.cells= #[z])
  (g n r m:Nat) (q:Array Value) (hs:a.eval s= .slice (some ⟨g,0,none⟩) n r) (hx:a.eval x= .int .i64 (m:Int)) (hg:w.heap[g]? =some (.cells q e (0,0))) (G:n+m≤r) (O:n+m≤q.size) (Z:(m:Int)<9223372036854775808) (hb:(m:Int)*i.bytes≤281474976710656) (h1:z.oneCell'=true)
  (h:wpList P ops Q l (a.put o.dst (.slice (some ⟨g,0,none⟩) (n+m) r)) (w.setRow g (q.toList.take n++List.replicate m z++q.toList.drop (n+m)).toArray)):wpList P ops Q (o::l) a w:=by
 refine wpList_plain U fun K Y=>?_
 have J:=J6 (P:=P) w t I o.type e k i z ht V hi hz D X g n r m q hg G O Z hb h1;unfold Oper.wp execOp;simp only[ho,resolve,invoke,builtin,Sem.run_bind,Sem.run_pure,Result.andThen_ok,List.map_toArray,List.map_cons,List.map_nil,hs,hx,J];exact Y _ _ h
def zN (cur:Array Value)(o:Nat)(cells:Array Value):Array Value:=(cur.toList.take o++cells.toList++cur.toList.drop (o+cells.size)).toArray
theorem Jz {P:Program}(w:World)(g off:Nat)(t q:TypeId)(o cells:Array Value)(I:w.heap[g]? =some (.cells o t (0,0)))(r:(P.info? q).map (·.size)=some cells.size)
  (J:off+cells.size≤o.size) (G:cells.all (·.oneCell')=true):
  (storeVar q ⟨g,off,none⟩ (.agg cells)).run P w= .ok () (w.setRow g (zN o off cells)):=by
 have:=run_storeCells_at P g off t cells.toList 0 o w I (by simpa using J) (fun v D=>(Array.all_eq_true_iff_forall_mem.1 G) v (by simpa using D))
 cases hq:P.info? q with
 | none=>simp[hq]at r
 | some i=>
  have O:cells.size=i.size:=by simp[hq]at r;omega
  simp only[Nat.add_zero,Array.length_toList]at this;simp[storeVar,sizeOf,typeInfo,hq,Value.cells,O,zN]at this⊢
  exact this
theorem z6 {P:Program}{o:Oper}{a:Act}{w:World}{K:Act→World→Prop}{Q:Exit→Act→World→Prop}(r:TypeId)(x y:Operand)(U:o.op= .store r x y)
  (g off:Nat) (cells:Array Value) (V:a.eval x= .pointer (some ⟨g,off,none⟩)) (J:a.eval y= .agg cells)
  (t:TypeId) (q:Array Value) (I:w.heap[g]? =some (.cells q t (0,0))) (G:(P.info? r).map (·.size)=some cells.size)
  (D:off+cells.size≤q.size) (O:cells.all (·.oneCell')=true)
  (h:K (a.put o.dst undef) (w.setRow g (zN q off cells))):o.wp P a w K Q:=by
 unfold Oper.wp execOp;simp only[U,V,J,Instr.storeAt,Instr.sureAddr,Sem.run_bind,Sem.run_pure,Result.andThen_ok,Jz w g off t r q cells I G D O];exact h
theorem zI {P:Program}{ops:Array Oper}{r:List Oper}{o:Oper}{a:Act}{w:World}{Q:Exit→Act→World→Prop}(I:o.guard=none)(D:TypeId)(x y:Operand)(Y:o.op= .store D x y)
  (g off:Nat) (cells:Array Value) (Z:a.eval x= .pointer (some ⟨g,off,none⟩)) (V:a.eval y= .agg cells)
  (t:TypeId) (q:Array Value) (U:w.heap[g]? =some (.cells q t (0,0))) (O:(P.info? D).map (·.size)=some cells.size)
  (G:off+cells.size≤q.size) (X:cells.all (·.oneCell')=true)
  (h:wpList P ops Q r (a.put o.dst undef) (w.setRow g (zN q off cells))):wpList P ops Q (o::r) a w:=
 wpList_plain I fun _ J=>z6 D x y Y g off cells Z V t q U O G X (J _ _ h)
theorem J5 {P:Program}(w:World)(g off:Nat)(t o:TypeId)(q cs:Array Value)(fr:Nat×Nat)(d:TypeDesc)(U:w.heap[g]? =some (.cells q t fr))
  (Y:P.underlying o=some d) (Z:(match d with| .struct _| .array _ _=>true|_=>false)=true) (G:(P.info? o).map (·.size)=some cs.size) (O: ∀j,j<cs.size→q[off+j]? =cs[j]?):
  (loadVar o ⟨g,off,none⟩).run P w= .ok (.agg cs) w:=by
 have I:(loadCells ⟨g,off,none⟩ cs.toList.length).run P w= .ok cs.toList.toArray w:=
  run_loadCells_list (P:=P) w ⟨g,off,none⟩ cs.toList (fun j v J=>by
   have V:j<cs.size:=by have:=(List.getElem?_eq_some_iff.1 J).1;simpa using this
   have r:(⟨g,off,none⟩:Addr).add j=⟨g,off+j,none⟩:=by unfold Addr.add;split<;>simp_all
   rw[r,cell_of_row w g (off+j) q t fr U,O j V];simpa using J)
 cases hq:P.info? o with
 | none=>simp[hq]at G
 | some i=>
  have X:i.size=cs.size:=by simpa [hq] using G
  have D:(isAgg o).run P w= .ok true w:=by
   unfold isAgg;rw[Sem.run_bind,run_underlying Y w]
   cases d<;>simp_all
  simp only[Array.length_toList,Array.toArray_toList]at I;simp[loadVar,Sem.run_bind,D,sizeOf,typeInfo,hq,X,I]
theorem Qf {P:Program}{o:Oper}{a:Act}{w:World}{K:Act→World→Prop}{Q:Exit→Act→World→Prop}(r:TypeId)(x:Operand)(O:o.op= .load r x)
  (g off:Nat) (V:a.eval x= .pointer (some ⟨g,off,none⟩)) (t:TypeId) (q cs:Array Value) (fr:Nat×Nat) (d:TypeDesc) (I:w.heap[g]? =some (.cells q t fr))
  (U:P.underlying r=some d) (J:(match d with| .struct _| .array _ _=>true|_=>false)=true) (G:(P.info? r).map (·.size)=some cs.size) (D: ∀j,j<cs.size→q[off+j]? =cs[j]?)
  (h:K (a.put o.dst (.agg cs)) w):o.wp P a w K Q:=by
 unfold Oper.wp execOp;simp only[O,V,Instr.loadAt,Instr.sureAddr,Sem.run_bind,Sem.run_pure,Result.andThen_ok,J5 w g off t r q cs fr d I U J G D];exact h
theorem Jf {P:Program}{w:World}{ops:Array Oper}{o:Oper}{l:List Oper}{a:Act}{Q:Exit→Act→World→Prop}(X:o.guard=none)(s x:Operand)(t:TypeId)
  (ho:o.op= .call { callee:= .builtin .append,args:= #[s,x],argTypes:= #[t,t] }) (base:Nat) (e:TypeId) (i:TypeInfo) (Z:P.underlying t=some (.slice e)) (Y:P.info? e=some i) (I:i.size=1)
  (g n q:Nat) (xs:List Value) (hs:a.eval s= .slice (some ⟨g,0,none⟩) n q) (D:w.ownsRow base e 1 (.slice (some ⟨g,0,none⟩) n q) n xs)
  (u:Value) (m:Nat) (r:List Value) (hx:a.eval x=u) (V:SrcIs w u m r) (J:n+m≤q)
  (h: ∀w',w'.ownsRow base e 1 (.slice (some ⟨g,0,none⟩) (n+m) q) (n+m) (xs++r)→w.grownBy w' (some g)→wpList P ops Q l (a.put o.dst (.slice (some ⟨g,0,none⟩) (n+m) q)) w'):wpList P ops Q (o::l) a w:=by
 refine wpList_plain X fun K hK=>?_
 have U: ∃w',(Builtin.append_ #[t,t] o.type #[.slice (some ⟨g,0,none⟩) n q,u]).run P w= .ok (.slice (some ⟨g,0,none⟩) (n+m) q) w'∧w'.ownsRow base e 1 (.slice (some ⟨g,0,none⟩) (n+m) q) (n+m) (xs++r)∧w.grownBy w' (some g):=by
  obtain⟨h1,O,G⟩:=V;rcases G with⟨rfl,rfl⟩|⟨ad,c,rfl,G⟩
  ·obtain rfl:r=[]:=List.eq_nil_of_length_eq_zero h1;exact⟨w,by rw[Nat.add_zero];exact run_append_owned_none w base t o.type e i 1 Z Y _ n xs D,by simpa using D,⟨rfl,rfl,rfl,Nat.le_refl _,fun _ _ _=>rfl⟩⟩
  ·exact run_append_fits w base t o.type e i 1 Z Y I g n q xs D ad m c r (by omega) G O J
 obtain⟨w',hr,O,G⟩:=U;unfold Oper.wp execOp;simp only[ho,resolve,invoke,builtin,Sem.run_bind,Sem.run_pure,Result.andThen_ok,List.map_toArray,List.map_cons,List.map_nil,hs,hx,hr];exact hK _ _ (h w' O G)
theorem zO {w:World}{base:Nat}{e:TypeId}{g n q m:Nat}{xs:List Value}(h:w.ownsRow base e 1 (.slice (some ⟨g,0,none⟩) m q) n xs):
  ∃o,w.heap[g]? =some (.cells o e (0,0))∧o.size=q∧o.toList.take n=xs∧base≤g∧n≤q∧q≤maxLen:=by
 rcases h.2 with⟨h, -⟩|⟨V,I,o,h,O,D,J,G,U,r⟩
 ·simp at h
 ·simp only[Value.slice.injEq,Option.some.injEq,Addr.mk.injEq,and_true,true_and]at h;obtain⟨rfl, -,rfl⟩:=h;exact⟨o,D,by simpa using U,by simpa using r,O,J,G⟩
theorem qaN {P:Program}(w:World)(base:Nat)(t I e:TypeId)(i:TypeInfo)(z:Value)(bytes:Nat)(V:P.underlying t=some (.slice e))(O:P.info? e=some i)(hz:i.zero=some z)
  (r:i.size=1) (Y:i.bytes=bytes) (ai:z.cells.size=1) (v:Value) (n:Nat) (xs:List Value) (D:w.ownsRow base e 1 v n xs)
  (u:Value) (m:Nat) (q:List Value) (ag:SrcIs w u m q) (ae:n+m≤maxLen) (G:(n+m)*bytes≤140737488355328) (aa:base≤w.heap.size):
  ∃v' w',(Builtin.append_ #[t,t] I #[v,u]).run P w= .ok v' w'∧w'.ownsRow base e 1 v' (n+m) (xs++q)∧w.grownBy w' v.ownBlock∧(v'.ownBlock=v.ownBlock∨v'.ownBlock=some w.heap.size):=by
 obtain⟨h1,h2,U⟩:=ag;rcases U with⟨rfl,rfl⟩|⟨X,c,rfl,U⟩
 ·obtain rfl:q=[]:=List.eq_nil_of_length_eq_zero h1;exact⟨v,w,run_append_owned_none w base t I e i 1 V O v n xs D,by simpa using D,⟨rfl,rfl,rfl,Nat.le_refl _,fun _ _ _=>rfl⟩,.inl rfl⟩
 ·obtain⟨v',w',Z,ho,hg, -⟩:=run_append_own (P:=P) w base t I e i z 1 bytes V O hz r Y ai (by omega) v n xs D X m c q (by omega) U h2 ae G aa;refine⟨v',w',Z,ho,hg,?_⟩;have ah:n+m≤9223372036854775807:=by simp only[maxLen]at ae;omega
  rcases D.2 with⟨rfl,rfl⟩|⟨g,J,af,rfl,ao,aj,al,an,am,ak⟩
  ·by_cases hm:m=0
   ·subst hm;obtain rfl:q=[]:=List.eq_nil_of_length_eq_zero h1;rcases ho.2 with⟨rfl, -⟩|⟨g,J,af,rfl, -⟩
    ·exact .inl rfl
    ·exfalso
     have o:(Builtin.append_ #[t,t] I #[.slice none 0 0,.slice (some X) 0 c]).run P w= .ok (.slice none 0 0) w:=by
      simp[Builtin.append_,run_underlying V,sizeOf,typeInfo,O,Builtin.lenOf,Builtin.firstCells,loadCells,loadCellsFrom]
     rw[Z]at o;injection o with e1
     cases e1
   ·have o:=run_append_nil (P:=P) w t I e i z V O hz X m c q (by rw[r];omega) U (by omega) (by omega) (by rw[Y];have hb:=G;simp only[Nat.zero_add]at hb;omega);rw[Z]at o;injection o with e1
    subst e1;exact .inr rfl
  ·by_cases ab:n+m≤J
   ·have o:=run_append_room (P:=P) w t I e i V O g n J af aj X m c q (by rw[r];omega) U h2 ab (by rw[r];omega);rw[Z]at o;injection o with e1
    subst e1;exact .inl rfl
   ·have ac: ∀j u,xs[j]? =some u→w.cell? ((⟨g,0,none⟩:Addr).add j)=some u:=D.cells (g:=g) rfl;have o:=run_append_grow (P:=P) w t I e i z V O hz ⟨g,0,none⟩ n J xs (by rw[r];exact D.1) ac X m c q (by rw[r];omega) U (by omega) (by omega) (by rw[Y];exact growslice_fits (by omega) G);rw[Z]at o;injection o with e1
    subst e1;exact .inr rfl
theorem yx {P:Program}{w:World}{o:Oper}{a:Act}{K:Act→World→Prop}{Q:Exit→Act→World→Prop}(s x:Operand)(t:TypeId)
  (ho:o.op= .call { callee:= .builtin .append,args:= #[s,x],argTypes:= #[t,t] }) (base:Nat)
  (e:TypeId) (i:TypeInfo) (z:Value) (bytes:Nat) (ht:P.underlying t=some (.slice e)) (X:P.info? e=some i) (Z:i.zero=some z)
  (D:i.size=1) (O:i.bytes=bytes) (V:z.cells.size=1) (v:Value) (n:Nat) (xs:List Value) (hs:a.eval s=v) (J:w.ownsRow base e 1 v n xs)
  (u:Value) (m:Nat) (q:List Value) (hx:a.eval x=u) (I:SrcIs w u m q) (U:n+m≤maxLen) (r:(n+m)*bytes≤140737488355328) (G:base≤w.heap.size)
  (h: ∀v' w',w'.ownsRow base e 1 v' (n+m) (xs++q)→w.grownBy w' v.ownBlock→(v'.ownBlock=v.ownBlock∨v'.ownBlock=some w.heap.size)→K (a.put o.dst v') w'):o.wp P a w K Q:=by
 obtain⟨v',w',hr,Y,h3,h4⟩:=qaN (P:=P) w base t o.type e i z bytes ht X Z D O V v n xs J u m q I U r G;unfold Oper.wp execOp;simp only[ho,resolve,invoke,builtin,Sem.run_bind,Sem.run_pure,Result.andThen_ok,List.map_toArray,List.map_cons,List.map_nil,hs,hx,hr];exact h v' w' Y h3 h4
end Go.Proofs.YthjoojnlnlmljaaGreat
namespace Go.Proofs.YthjoojnlnlmljaaGreat
open Go.ChangeShapes Go.WideShapes Go.ChangeAt Go.RowKit Go.Joins Go.Shelf Go.Maps
open Go.Lib (hid)
attribute [local go_sem] Oper.semAt_some
def Hold (w:World)(v:Value)(zs:List Int):Prop:=
 (∀z∈zs,0≤z∧z≤255)∧((zs=[]∧v= .slice none 0 0)∨ ∃ad cap,v= .slice (some ad) zs.length cap∧zs.length≤cap∧cap≤maxLen∧(zs=[]∨ ∃b off,ad=⟨b,off,none⟩∧Qs w b off zs))
theorem Hold.nil (w:World):Hold w (.slice none 0 0) []:=⟨(fun _ h=>by cases h),.inl ⟨rfl,rfl⟩⟩
theorem Hold.holds8 {w:World}{v:Value}{zs:List Int}(h:Hold w v zs):Holds8 w v zs:=by
 rcases h.2 with⟨rfl,rfl⟩|⟨r,q,rfl,G,D,o⟩
 ·exact⟨none,0,rfl,.inl rfl⟩
 ·refine⟨some r,q,rfl,?_⟩;rcases o with o|⟨b,off,rfl,o⟩
  ·exact .inl o
  ·exact .inr ⟨b,off,rfl,o⟩
theorem Hold.slice {w:World}{v:Value}{zs:List Int}(h:Hold w v zs): ∃a o,v= .slice a zs.length o∧zs.length≤o∧(o:Int)≤9223372036854775807:=by
 rcases h.2 with⟨rfl,rfl⟩|⟨D,o,rfl,r,q,G⟩
 ·exact⟨none,0,rfl,Nat.le_refl _,by omega⟩
 ·exact⟨some D,o,rfl,r,by unfold maxLen at q;omega⟩
theorem Hold.src {w:World}{v:Value}{zs:List Int}(h:Hold w v zs):SrcIs w v zs.length (zs.map qt):=by
 rcases h.2 with⟨rfl,rfl⟩|⟨G,D,rfl,J,I,q⟩
 ·exact⟨rfl,by simp,.inl ⟨rfl,rfl⟩⟩
 ·refine⟨by simp,qej,.inr ⟨G,D,rfl,?_⟩⟩;rcases q with rfl|⟨b,off,rfl,q⟩
  ·intro j u r;simp at r
  ·intro j u r;obtain⟨o,rfl⟩:=List.getElem?_eq_some_iff.1 r;simp at o
   rw[Go.WideShapes.add_plain,q.2 j o];simp[qt,qr,Lg,o]
theorem Hold.keep {w w':World}{v:Value}{zs:List Int}(h:Hold w v zs)(I:w.heap.size≤w'.heap.size)(U: ∀b,v.ownBlock=some b→b<w.heap.size→w'.heap[b]? =w.heap[b]?):Hold w' v zs:=by
 refine⟨h.1,?_⟩;rcases h.2 with q|⟨J,r,rfl,G,q,o⟩
 ·exact .inl q
 ·refine .inr ⟨J,r,rfl,G,q,?_⟩;rcases o with o|⟨b,off,rfl,o,D⟩
  ·exact .inl o
  ·refine .inr ⟨b,off,rfl,Nat.lt_of_lt_of_le o I,fun i O=>?_⟩;rw[←D i O];exact World.cell?_of_block (U b rfl o)
theorem Hold.below {w w':World}{v:Value}{zs:List Int}(h:Hold w v zs)(q:Below w.heap.size w w'):Hold w' v zs:=h.keep q.size fun b _ o=>q.block b o
theorem Qq {W:World}{base:Nat}{v:Value}{n:Nat}{zs:List Int}(h:W.ownsRow base 5 1 v n (zs.map qt))(G: ∀z∈zs,0≤z∧z≤255):Hold W v zs:=by
 have J:zs.length=n:=by have:=h.1;simpa using this
 refine⟨G,?_⟩;rcases h.2 with⟨rfl,U⟩|⟨g,q,O,rfl,Z,X,Y,I,h5,V⟩
 ·exact .inl ⟨List.eq_nil_of_length_eq_zero (by omega),rfl⟩
 ·refine .inr ⟨⟨g,0,none⟩,q,by rw[J],by omega,I,?_⟩;obtain⟨a,c,e,o⟩:=Q7 h;rcases o with o|⟨b,off,r,D⟩
  ·exact .inl o
  ·rw[r]at e;simp only[Value.slice.injEq,Option.some.injEq,Addr.mk.injEq,and_true]at e;obtain⟨⟨rfl,rfl⟩, -, -⟩:=e;exact .inr ⟨_,_,rfl,D⟩
theorem qcL (x y c:Nat)(r:x<18446744073709551616)(q:y<18446744073709551616)(o:c≤1)(w:World):
  (callFunc 262 #[.int .u64 (x:Nat),.int .u64 (y:Nat),.int .u64 (c:Nat)]).run Tryz.prog w=
   .ok (.value (.tuple #[.int .u64 (((x+y+c)%18446744073709551616:Nat):Int),.int .u64 (((x+y+c)/18446744073709551616:Nat):Int)])) w:=by
 rw[run_callFunc_extern Tryz.func262 (by kernel_rfl) (by kernel_rfl) (by kernel_rfl) (e:=add64Entry) (by kernel_rfl),run_add64 x y c (by omega) (by omega) (by omega) (by omega)];simp only[Result.andThen];congr 5<;>omega
theorem qdt (o n:Nat)(h:o+n<9223372036854775808)(w:World):
  Calls Tryz.prog 261 #[.agg #[.int .u64 (o:Nat),.int .u64 0],.int .u64 (n:Nat)] w fun e w'=>e= .returned (.tuple #[.agg #[.int .u64 ((o+n:Nat):Int),.int .u64 0],.bool false])∧Below w.heap.size w w':=by
 have q:=qcL o n 0 (by omega) (by omega) (by omega);have r:=qcL 0 0 0 (by omega) (by omega) (by omega);rw[show(o+n+0)%18446744073709551616=o+n by omega,show(o+n+0)/18446744073709551616=0 by omega]at q;rw[show(0+0+0)%18446744073709551616=0 by omega,show(0+0+0)/18446744073709551616=0 by omega]at r;simp only[Int.natCast_zero]at q r;obtain⟨s,D⟩:=Ex (o+n);rw[D]at q⊢;clear D h;go_enter Tryz.func261,Tryz.ntmps261
 go_wp2_with (simp only[q,r])
 exact Bp (v:= .tuple #[.agg #[.int .u64 (s:Nat),.int .u64 0],.bool false]) (by simp[results,Tryz.results261,go_sem]) rfl ⟨rfl,(Br.alloc Nl _).alloc (by simp) _⟩
theorem ZD (big:Bool)(w:World):Calls Tryz.prog 134 #[.int .i64 (kB big)] w fun e w'=>e= .returned (.int .i64 (bB big:Nat))∧w'=w:=by
 cases big<;>
 ·simp only[kB,bB,cond];go_enter Tryz.func134,Tryz.ntmps134
  go_wp2
  go_ret
  exact⟨rfl,rfl⟩
theorem Y0 (big:Bool)(w:World):Calls Tryz.prog 181 #[.int .i64 (kB big)] w fun e w'=>e= .returned (.int .i64 (bB big:Nat))∧w'=w:=by
 cases big<;>
 ·simp only[kB,bB,cond];go_enter Tryz.func181,Tryz.ntmps181
  go_wp2
  go_ret
  exact⟨rfl,rfl⟩
theorem jC (zs:List Int)(v:Value)(n:Nat)(w:World)(h:Hold w v zs)(hl:zs.length≤n)(hn:1≤n∧n≤65535):
  Calls Tryz.prog 161 #[v,.int .i64 (n:Nat)] w fun e w'=> ∃v',e= .returned v'∧w'.ownsRow w.heap.size 5 1 v' n ((QH n zs).map qt)∧Below w.heap.size w w':=by
 obtain⟨i0,hi,ab,I,Z⟩:=info_parts Qr;have G:=h.src;obtain⟨a,al,rfl,ak,am⟩:=h.slice;have aj: ∀W:World,(Instr.makeSlice 24 (.int .i64 0) (.int .i64 (n:Nat))).run Tryz.prog W= .ok (.slice (some ⟨W.heap.size,0,none⟩) 0 n) (W.alloc (.cells (madeCells #[.int .u8 0] n) 5)):=by
  intro W;have:=run_make (P:=Tryz.prog) W 24 5 i0 (.int .u8 0) Tryz.underlying24 hi ab .i64 .i64 0 n (by omega) (by omega) (by rw[Z];omega) (by omega)
  simpa [I,show(Value.int .u8 0).cells= #[.int .u8 0] from rfl] using this
 have O:(w.alloc (.cells (madeCells #[.int .u8 0] n) 5)).ownsRow w.heap.size 5 1 (.slice (some ⟨w.heap.size,0,none⟩) 0 n) 0 []:=by
  refine⟨rfl,.inr ⟨w.heap.size,n,_,rfl,Nat.le_refl _,Wn _ _,Nat.zero_le _,by unfold maxLen;omega,by simp[madeCells],rfl⟩⟩
 have U:Below w.heap.size w (w.alloc (.cells (madeCells #[.int .u8 0] n) 5)):=Br.alloc Nl _;have Y:=G.below U;clear h G;go_enter Tryz.func161,Tryz.ntmps161
 obtain⟨m,hm⟩:=Ex (n - zs.length);have ac:(n:Int) - (zs.length:Int)=(m:Int):=by omega
 have ai:m≤65535:=by omega
 have K1:=hid ac;have HM:=hid hm;have aa:zs.length+m=n:=by omega
 have o:=hid aa;obtain⟨X,q⟩:=Ex w.heap.size;rw[q]at O U;clear ac hm aa;go_wp2_with (first|((with_reducible show wpList _ _ _ (Oper.mk (some 8) _ _ _ _ _::_) _ _);refine Jf rfl _ _ _ rfl X 5 i0 Tryz.underlying24 hi I X 0 n [] (by rw[←q];rfl) O _ zs.length _ rfl Y (by omega) ?_;intro w2 V ae;obtain⟨J,ad,r,af, -⟩:=zO V)|((with_reducible show wpList _ _ _ (Oper.mk (some 13) _ _ _ _ _::_) _ _);refine jR rfl _ _ _ _ rfl 5 .i64 i0 (.int .u8 0) Tryz.underlying24 Tryz.underlying3 hi ab I rfl X zs.length n m J rfl (by rw[←K1.out];rfl) ad (by rw[o.out];exact Nat.le_refl _) (by rw[o.out,r];exact Nat.le_refl _) (by omega) (by rw[Z];omega) rfl ?_))
 go_ret
 rw[o.out];have hp:QH n zs=zs++List.replicate m 0:=by rw[←HM.out];rfl
 have D:J.toList.take zs.length=zs.map qt:=by simpa using af
 have ah:J.toList.drop n=[]:=List.drop_of_length_le (by simp[r]);refine⟨_,rfl,⟨by rw[hp];simp[o.out],.inr ⟨X,n,_,rfl,by omega,setRow_heap _ _ _ _ _ _ ad,Nat.le_refl _,by unfold maxLen;omega,?_,?_⟩⟩,?_⟩
 ·have ag:=congrArg List.length D;simp at ag
  simp[r,o.out];have:=o.out;omega
 ·rw[hp,D,ah];simp only[List.append_nil,List.map_append,List.map_replicate];exact List.take_of_length_le (by simp[o.out])
 ·rw[q];exact below_setRow (U.grown ae (by simp[q]) (fun k e=>by cases e;exact Nat.le_refl _)) Nl _
theorem Holds8.mono_below {w w':World}{v:Value}{zs:List Int}{B:Nat}(h:Holds8 w v zs)(o:Below B w w')(q:w.heap.size≤B):Holds8 w' v zs:=qS h (o.mono q)
theorem qd5 (h J:List Int)(hh:Words 64 8 h)(v:Value)(q:Nat)(ad:(q:Int)<9223372036854775808)(D node:Bool)(w:World)(hH:Holds8 w v J)(hz: ∀z∈J,0≤z∧z≤255)(hl:J.length=128):
  Calls Tryz.prog 184 #[.agg (qj .u64 h),v,.agg #[.int .u64 (q:Nat),.int .u64 0],.bool D,.bool node] w fun e w'=>e= .returned (.agg (qj .u64 (yD true h J (q:Nat) D node)))∧Below w.heap.size w w':=by
 obtain⟨o,r⟩:=Ex w.heap.size;have I:=yi 8 16 hz (by rw[hl]);obtain⟨M,hM⟩:=Ex (QZ 8 16 J);obtain⟨R,Z⟩:=Ex (yD true h J (q:Nat) D node);have aa:Words 64 8 R:=by rw[←Z];exact QV true hh _ _ _ _
 have ae:zV mixBig IVb 12 h M (q:Nat) 0 D node=R:=by rw[←Z,←hM];rfl
 rw[Z];rw[hM]at I;have HM:=hid hM;have ak:=hid ae;have HL:=hid hl;have an:=hid ad;clear hM Z ae hl ad;have V:Below o w (((w.alloc (.cells (qj .u64 h) 274)).alloc (.cells #[.int .u64 (q:Nat),.int .u64 0] 281)).alloc (.cells #[.int .u64 0,.int .u64 0,.int .u64 0,.int .u64 0,.int .u64 0,.int .u64 0,.int .u64 0,.int .u64 0] 274)):=by rw[←r];exact((Br.alloc Nl _).alloc (by simp) _).alloc (by simp;omega) _
 have al:(((w.alloc (.cells (qj .u64 h) 274)).alloc (.cells #[.int .u64 (q:Nat),.int .u64 0] 281)).alloc (.cells #[.int .u64 0,.int .u64 0,.int .u64 0,.int .u64 0,.int .u64 0,.int .u64 0,.int .u64 0,.int .u64 0] 274)).heap.size=o+1+1+1:=by simp[r]
 have h0:(((w.alloc (.cells (qj .u64 h) 274)).alloc (.cells #[.int .u64 (q:Nat),.int .u64 0] 281)).alloc (.cells #[.int .u64 0,.int .u64 0,.int .u64 0,.int .u64 0,.int .u64 0,.int .u64 0,.int .u64 0,.int .u64 0] 274)).heap[o]? =some (.cells (qj .u64 h) 274 (0,0)):=by
  rw[Bh _ _ _ (by simp[r];omega),Bh _ _ _ (by simp[r]),←r];exact Wn _ _
 have h1:(((w.alloc (.cells (qj .u64 h) 274)).alloc (.cells #[.int .u64 (q:Nat),.int .u64 0] 281)).alloc (.cells #[.int .u64 0,.int .u64 0,.int .u64 0,.int .u64 0,.int .u64 0,.int .u64 0,.int .u64 0,.int .u64 0] 274)).heap[o+1]? =some (.cells #[.int .u64 (q:Nat),.int .u64 0] 281 (0,0)):=by
  rw[Bh _ _ _ (by simp[r]),show o+1=(w.alloc (.cells (qj .u64 h) 274)).heap.size by simp[r]];exact Wn _ _
 have h2:(((w.alloc (.cells (qj .u64 h) 274)).alloc (.cells #[.int .u64 (q:Nat),.int .u64 0] 281)).alloc (.cells #[.int .u64 0,.int .u64 0,.int .u64 0,.int .u64 0,.int .u64 0,.int .u64 0,.int .u64 0,.int .u64 0] 274)).heap[o+1+1]? =some (.cells #[.int .u64 0,.int .u64 0,.int .u64 0,.int .u64 0,.int .u64 0,.int .u64 0,.int .u64 0,.int .u64 0] 274 (0,0)):=by
  rw[show o+1+1=((w.alloc (.cells (qj .u64 h) 274)).alloc (.cells #[.int .u64 (q:Nat),.int .u64 0] 281)).heap.size by simp[r]];exact Wn _ _
 have HH:=hid (hH.mono_below V (by omega));clear hH;go_enter Tryz.func184,Tryz.ntmps184
 go_wp2_with fail
 generalize (((w.alloc (.cells (qj .u64 h) 274)).alloc (.cells #[.int .u64 (q:Nat),.int .u64 0] 281)).alloc (.cells #[.int .u64 0,.int .u64 0,.int .u64 0,.int .u64 0,.int .u64 0,.int .u64 0,.int .u64 0,.int .u64 0] 274))=w0 at*;refine(qeE J v _ HH.out hz HL.out).mono ?_;rintro e w1 ⟨rfl,G⟩;rw[HM.out];have ah:=G.size;have k0:=qg h0 G;have k1:=qg h1 G;have k2:=qg h2 G;have ac:Below o w w1:=V.trans (G.mono (by omega));have am:o+3≤w1.heap.size:=by omega
 clear h0 h1 h2 G V HH al ah;have K0:=hid k0;have K1:=hid k1;have K2:=hid k2;have af:=hid hh;clear k0 k1 k2 hh hz;go_upto_region 2 with((with_reducible show wpList _ _ _ (Oper.mk none (Op.store 252 _ _) _ _ _ _::_) _ _);refine wpList_store_row rfl 252 _ _ rfl w1.heap.size (qj .u64 M) rfl rfl 252 _ (Wn _ _) (by rw[qf,I.1];kernel_rfl) (by rw[qf,I.1];rfl) qy ?_)
 refine qn ?_;intro W O;obtain⟨bv,U⟩:=Ex w1.heap.size;have g0:W.heap[o]? =some (.cells (qj .u64 h) 274 (0,0)):=by rw[O];exact(setRow_other (w1.alloc _) _ _ _ (by omega)).trans ((Bh _ _ _ (by omega)).trans K0.out)
 have g1:W.heap[o+1]? =some (.cells #[.int .u64 (q:Nat),.int .u64 0] 281 (0,0)):=by rw[O];exact(setRow_other (w1.alloc _) _ _ _ (by omega)).trans ((Bh _ _ _ (by omega)).trans K1.out)
 have g2:W.heap[o+1+1]? =some (.cells #[.int .u64 0,.int .u64 0,.int .u64 0,.int .u64 0,.int .u64 0,.int .u64 0,.int .u64 0,.int .u64 0] 274 (0,0)):=by rw[O];exact(setRow_other (w1.alloc _) _ _ _ (by omega)).trans ((Bh _ _ _ (by omega)).trans K2.out)
 have g3:W.heap[bv]? =some (.cells (qj .u64 M) 252 (0,0)):=by rw[O,←U];exact setRow_heap _ _ _ _ _ _ (Wn _ _)
 have ab:Below o w W:=by rw[O];exact below_setRow (ac.alloc (by omega) _) (by omega) _
 rw[U];clear O ac U am K0 K1 K2;have Y:=hid aa;have ag:=hid I;clear aa I;have aj:=qd g1 0;go_wp2_with (first|((with_reducible show wpList _ _ _ (Oper.mk (some 18) _ _ _ _ _::_) _ _);refine wpList_load_row rfl 274 _ rfl o rfl _ _ _ _ g0 Tryz.underlying274 rfl (by rw[qf,af.out.1];kernel_rfl) ?_)|((with_reducible show wpList _ _ _ (Oper.mk (some 19) _ _ _ _ _::_) _ _);refine wpList_load_row rfl 252 _ rfl bv rfl _ _ _ _ g3 Tryz.underlying252 rfl (by rw[qf,ag.out.1];kernel_rfl) ?_)|((with_reducible show wpList _ _ _ (Oper.mk (some 20) _ _ _ _ _::_) _ _);refine wpList_load_row rfl 281 _ rfl (o+1) rfl _ _ _ _ g1 Tryz.underlying281 rfl (by kernel_rfl) ?_))
 refine(qiH h M af.out ag.out (q:Nat) 0 D node _).mono ?_;rintro e w2 ⟨rfl,X⟩;rw[ak.out];have j2:=qg g2 X;have ai:Below o w w2:=ab.trans (X.mono (by have:=(Ai g2).1;omega));clear g0 g1 g2 g3 ab X aj;go_wp2_with ((with_reducible show wpList _ _ _ (Oper.mk none (Op.store 274 _ _) _ _ _ _::_) _ _);refine wpList_store_row rfl 274 _ _ rfl (o+1+1) (qj .u64 R) rfl rfl 274 _ j2 (by rw[qf,Y.out.1];kernel_rfl) (by rw[qf,Y.out.1];rfl) qy ?_)
 exact Bp (results_cell_row rfl _ _ (o+1+1) 274 _ _ _ rfl (setRow_heap _ _ _ _ _ _ j2) Tryz.underlying274 rfl (by rw[qf,Y.out.1];kernel_rfl)) rfl ⟨rfl,by rw[r];exact below_setRow ai (by omega) _⟩
theorem qcz (h J:List Int)(hh:Words 32 8 h)(v:Value)(q:Nat)(ad:(q:Int)<9223372036854775808)(D node:Bool)(w:World)(hH:Holds8 w v J)(hz: ∀z∈J,0≤z∧z≤255)(hl:J.length=64):
  Calls Tryz.prog 187 #[.agg (qj .u32 h),v,.agg #[.int .u64 (q:Nat),.int .u64 0],.bool D,.bool node] w fun e w'=>e= .returned (.agg (qj .u32 (yD false h J (q:Nat) D node)))∧Below w.heap.size w w':=by
 obtain⟨o,r⟩:=Ex w.heap.size;have I:=yi 4 16 hz (by rw[hl]);obtain⟨M,hM⟩:=Ex (QZ 4 16 J);obtain⟨R,Z⟩:=Ex (yD false h J (q:Nat) D node);have aa:Words 32 8 R:=by rw[←Z];exact QV false hh _ _ _ _
 have ae:zV mixSmall IVs 10 h M ((q:Nat)%4294967296) ((q:Nat)/4294967296) D node=R:=by rw[←Z,←hM];rfl
 rw[Z];rw[hM]at I;have HM:=hid hM;have ak:=hid ae;have HL:=hid hl;have an:=hid ad;clear hM Z ae hl ad;have V:Below o w (((w.alloc (.cells (qj .u32 h) 284)).alloc (.cells #[.int .u64 (q:Nat),.int .u64 0] 281)).alloc (.cells #[.int .u32 0,.int .u32 0,.int .u32 0,.int .u32 0,.int .u32 0,.int .u32 0,.int .u32 0,.int .u32 0] 284)):=by rw[←r];exact((Br.alloc Nl _).alloc (by simp) _).alloc (by simp;omega) _
 have al:(((w.alloc (.cells (qj .u32 h) 284)).alloc (.cells #[.int .u64 (q:Nat),.int .u64 0] 281)).alloc (.cells #[.int .u32 0,.int .u32 0,.int .u32 0,.int .u32 0,.int .u32 0,.int .u32 0,.int .u32 0,.int .u32 0] 284)).heap.size=o+1+1+1:=by simp[r]
 have h0:(((w.alloc (.cells (qj .u32 h) 284)).alloc (.cells #[.int .u64 (q:Nat),.int .u64 0] 281)).alloc (.cells #[.int .u32 0,.int .u32 0,.int .u32 0,.int .u32 0,.int .u32 0,.int .u32 0,.int .u32 0,.int .u32 0] 284)).heap[o]? =some (.cells (qj .u32 h) 284 (0,0)):=by
  rw[Bh _ _ _ (by simp[r];omega),Bh _ _ _ (by simp[r]),←r];exact Wn _ _
 have h1:(((w.alloc (.cells (qj .u32 h) 284)).alloc (.cells #[.int .u64 (q:Nat),.int .u64 0] 281)).alloc (.cells #[.int .u32 0,.int .u32 0,.int .u32 0,.int .u32 0,.int .u32 0,.int .u32 0,.int .u32 0,.int .u32 0] 284)).heap[o+1]? =some (.cells #[.int .u64 (q:Nat),.int .u64 0] 281 (0,0)):=by
  rw[Bh _ _ _ (by simp[r]),show o+1=(w.alloc (.cells (qj .u32 h) 284)).heap.size by simp[r]];exact Wn _ _
 have h2:(((w.alloc (.cells (qj .u32 h) 284)).alloc (.cells #[.int .u64 (q:Nat),.int .u64 0] 281)).alloc (.cells #[.int .u32 0,.int .u32 0,.int .u32 0,.int .u32 0,.int .u32 0,.int .u32 0,.int .u32 0,.int .u32 0] 284)).heap[o+1+1]? =some (.cells #[.int .u32 0,.int .u32 0,.int .u32 0,.int .u32 0,.int .u32 0,.int .u32 0,.int .u32 0,.int .u32 0] 284 (0,0)):=by
  rw[show o+1+1=((w.alloc (.cells (qj .u32 h) 284)).alloc (.cells #[.int .u64 (q:Nat),.int .u64 0] 281)).heap.size by simp[r]];exact Wn _ _
 have HH:=hid (hH.mono_below V (by omega));clear hH;go_enter Tryz.func187,Tryz.ntmps187
 go_wp2_with fail
 generalize (((w.alloc (.cells (qj .u32 h) 284)).alloc (.cells #[.int .u64 (q:Nat),.int .u64 0] 281)).alloc (.cells #[.int .u32 0,.int .u32 0,.int .u32 0,.int .u32 0,.int .u32 0,.int .u32 0,.int .u32 0,.int .u32 0] 284))=w0 at*;refine(qeF J v _ HH.out hz HL.out).mono ?_;rintro e w1 ⟨rfl,G⟩;rw[HM.out];have ah:=G.size;have k0:=qg h0 G;have k1:=qg h1 G;have k2:=qg h2 G;have ac:Below o w w1:=V.trans (G.mono (by omega));have am:o+3≤w1.heap.size:=by omega
 clear h0 h1 h2 G V HH al ah;have K0:=hid k0;have K1:=hid k1;have K2:=hid k2;have af:=hid hh;clear k0 k1 k2 hh hz;go_upto_region 2 with((with_reducible show wpList _ _ _ (Oper.mk none (Op.store 298 _ _) _ _ _ _::_) _ _);refine wpList_store_row rfl 298 _ _ rfl w1.heap.size (qj .u32 M) rfl rfl 298 _ (Wn _ _) (by rw[qf,I.1];kernel_rfl) (by rw[qf,I.1];rfl) qy ?_)
 refine qn ?_;intro W O;obtain⟨bv,U⟩:=Ex w1.heap.size;have g0:W.heap[o]? =some (.cells (qj .u32 h) 284 (0,0)):=by rw[O];exact(setRow_other (w1.alloc _) _ _ _ (by omega)).trans ((Bh _ _ _ (by omega)).trans K0.out)
 have g1:W.heap[o+1]? =some (.cells #[.int .u64 (q:Nat),.int .u64 0] 281 (0,0)):=by rw[O];exact(setRow_other (w1.alloc _) _ _ _ (by omega)).trans ((Bh _ _ _ (by omega)).trans K1.out)
 have g2:W.heap[o+1+1]? =some (.cells #[.int .u32 0,.int .u32 0,.int .u32 0,.int .u32 0,.int .u32 0,.int .u32 0,.int .u32 0,.int .u32 0] 284 (0,0)):=by rw[O];exact(setRow_other (w1.alloc _) _ _ _ (by omega)).trans ((Bh _ _ _ (by omega)).trans K2.out)
 have g3:W.heap[bv]? =some (.cells (qj .u32 M) 298 (0,0)):=by rw[O,←U];exact setRow_heap _ _ _ _ _ _ (Wn _ _)
 have ab:Below o w W:=by rw[O];exact below_setRow (ac.alloc (by omega) _) (by omega) _
 rw[U];clear O ac U am K0 K1 K2;have Y:=hid aa;have ag:=hid I;clear aa I;have aj:=qd g1 0;go_wp2_with (first|((with_reducible show wpList _ _ _ (Oper.mk (some 18) _ _ _ _ _::_) _ _);refine wpList_load_row rfl 284 _ rfl o rfl _ _ _ _ g0 Tryz.underlying284 rfl (by rw[qf,af.out.1];kernel_rfl) ?_)|((with_reducible show wpList _ _ _ (Oper.mk (some 19) _ _ _ _ _::_) _ _);refine wpList_load_row rfl 298 _ rfl bv rfl _ _ _ _ g3 Tryz.underlying298 rfl (by rw[qf,ag.out.1];kernel_rfl) ?_))
 refine(qiI h M af.out ag.out (q:Nat) (by omega) (by have:=an.out;omega) D node _).mono ?_;rintro e w2 ⟨rfl,X⟩;rw[ak.out];have j2:=qg g2 X;have ai:Below o w w2:=ab.trans (X.mono (by have:=(Ai g2).1;omega));clear g0 g1 g2 g3 ab X aj;go_wp2_with ((with_reducible show wpList _ _ _ (Oper.mk none (Op.store 284 _ _) _ _ _ _::_) _ _);refine wpList_store_row rfl 284 _ _ rfl (o+1+1) (qj .u32 R) rfl rfl 284 _ j2 (by rw[qf,Y.out.1];kernel_rfl) (by rw[qf,Y.out.1];rfl) qy ?_)
 exact Bp (results_cell_row rfl _ _ (o+1+1) 284 _ _ _ rfl (setRow_heap _ _ _ _ _ _ j2) Tryz.underlying284 rfl (by rw[qf,Y.out.1];kernel_rfl)) rfl ⟨rfl,by rw[r];exact below_setRow ai (by omega) _⟩
def zE (h:List Int)(lo:Int)(hv:Value):Array Value:= #[.int .u64 (wd h 0),.int .u64 (wd h 1),.int .u64 (wd h 2),.int .u64 (wd h 3),.int .u64 (wd h 4),.int .u64 (wd h 5),.int .u64 (wd h 6),.int .u64 (wd h 7),.int .u64 lo,.int .u64 0,hv,.int .i64 128,.func (.func 184) #[] #[],.func (.func 185) #[] #[]]
def zD (h:List Int)(lo:Int)(hv:Value):Array Value:= #[.int .u32 (wd h 0),.int .u32 (wd h 1),.int .u32 (wd h 2),.int .u32 (wd h 3),.int .u32 (wd h 4),.int .u32 (wd h 5),.int .u32 (wd h 6),.int .u32 (wd h 7),.int .u64 lo,.int .u64 0,hv,.int .i64 64,.func (.func 187) #[] #[],.func (.func 188) #[] #[]]
theorem qfF (o:List Int)(v:Value)(w:World)(Y:Holds8 w v o)(hz: ∀z∈o,0≤z∧z≤255)(hl:o.length=64):
  Calls Tryz.prog 160 #[.int .i64 1,v] w fun e w'=> ∃p,e= .returned (.iface 277 (.pointer (some ⟨p,0,none⟩)))∧w.heap.size≤p∧w'.heap[p]? =some (.cells (zE (h0Z true o) 0 (.slice none 0 0)) 283 (0,0))∧Below w.heap.size w w':=by
 obtain⟨H,q⟩:=Ex (h0Z true o);have I:Words 64 8 H:=by rw[←q];exact QX true o
 have r:yz .u64 IVb 8 o=H:=by rw[←q];rfl
 rw[q];have aa:=hid r;clear q r;have V:=hid I;clear I;go_enter Tryz.func160,Tryz.ntmps160
 go_wp2_with fail
 refine(qeN o v _ Y hz hl).mono ?_;rintro e w1 ⟨rfl,U⟩;rw[aa.out];clear Y hz hl;go_upto_region 3 with((with_reducible show wpList _ _ _ (Oper.mk none (Op.store 274 _ _) _ _ _ _::_) _ _);refine wpList_store_row rfl 274 _ _ rfl w1.heap.size (qj .u64 H) rfl rfl 274 _ (Wn _ _) (by rw[qf,V.out.1];kernel_rfl) (by rw[qf,V.out.1];rfl) qy ?_)
 refine qn ?_;intro W X;obtain⟨bv,D⟩:=Ex w1.heap.size;have G:=U.size;have Z:W.heap[bv]? =some (.cells (qj .u64 H) 274 (0,0)):=by rw[X,←D];exact setRow_heap _ _ _ _ _ _ (Wn _ _)
 have J:Below w.heap.size w W:=by rw[X];exact below_setRow (U.alloc G _) G _
 rw[D];clear X;rw[zZ V.out]at Z;have O:=J.size;go_wp2_with (first|((with_reducible show wpList _ _ _ (Oper.mk (some 16) _ _ _ _ _::_) _ _);refine wpList_load_row rfl 274 _ rfl bv rfl _ _ _ _ Z Tryz.underlying274 rfl (by kernel_rfl) ?_))
 go_ret
 exact⟨_,rfl,O,Wn _ _,J.alloc O _⟩
theorem qeu (o:List Int)(v:Value)(w:World)(Y:Holds8 w v o)(hz: ∀z∈o,0≤z∧z≤255)(hl:o.length=32):
  Calls Tryz.prog 160 #[.int .i64 2,v] w fun e w'=> ∃p,e= .returned (.iface 287 (.pointer (some ⟨p,0,none⟩)))∧w.heap.size≤p∧w'.heap[p]? =some (.cells (zD (h0Z false o) 0 (.slice none 0 0)) 291 (0,0))∧Below w.heap.size w w':=by
 obtain⟨H,q⟩:=Ex (h0Z false o);have I:Words 32 8 H:=by rw[←q];exact QX false o
 have r:yz .u32 IVs 4 o=H:=by rw[←q];rfl
 rw[q];have aa:=hid r;clear q r;have V:=hid I;clear I;go_enter Tryz.func160,Tryz.ntmps160
 go_wp2_with fail
 refine(qeO o v _ Y hz hl).mono ?_;rintro e w1 ⟨rfl,U⟩;rw[aa.out];clear Y hz hl;go_upto_region 5 with((with_reducible show wpList _ _ _ (Oper.mk none (Op.store 284 _ _) _ _ _ _::_) _ _);refine wpList_store_row rfl 284 _ _ rfl w1.heap.size (qj .u32 H) rfl rfl 284 _ (Wn _ _) (by rw[qf,V.out.1];kernel_rfl) (by rw[qf,V.out.1];rfl) qy ?_)
 refine qn ?_;intro W X;obtain⟨bv,D⟩:=Ex w1.heap.size;have G:=U.size;have Z:W.heap[bv]? =some (.cells (qj .u32 H) 284 (0,0)):=by rw[X,←D];exact setRow_heap _ _ _ _ _ _ (Wn _ _)
 have J:Below w.heap.size w W:=by rw[X];exact below_setRow (U.alloc G _) G _
 rw[D];clear X;rw[zZ V.out]at Z;have O:=J.size;go_wp2_with (first|((with_reducible show wpList _ _ _ (Oper.mk (some 25) _ _ _ _ _::_) _ _);refine wpList_load_row rfl 284 _ rfl bv rfl _ _ _ _ Z Tryz.underlying284 rfl (by kernel_rfl) ?_))
 go_ret
 exact⟨_,rfl,O,Wn _ _,J.alloc O _⟩
structure Spare (S:Nat→Prop)(w w':World):Prop where
 os:w'.os=w.os
 tape:w'.tape=w.tape
 output:w'.output=w.output
 size:w.heap.size≤w'.heap.size
 block: ∀k,k<w.heap.size→S k→w'.heap[k]? =w.heap[k]?
namespace Spare
variable {S T:Nat→Prop} {w w' w'':World}
theorem refl (S:Nat→Prop)(w:World):Spare S w w:=⟨rfl,rfl,rfl,Nat.le_refl _,fun _ _ _=>rfl⟩
theorem trans (h:Spare S w w')(k:Spare T w' w'')(q: ∀b,b<w.heap.size→S b→T b):Spare S w w'':=
 ⟨k.os.trans h.os,k.tape.trans h.tape,k.output.trans h.output,Nat.le_trans h.size k.size,fun b o r=>(k.block b (Nat.lt_of_lt_of_le o h.size) (q b o r)).trans (h.block b o r)⟩
theorem of_below (S:Nat→Prop)(h:Below w.heap.size w w'):Spare S w w':=⟨h.os,h.tape,h.output,h.size,fun k o _=>h.block k o⟩
theorem below (h:Spare S w w'){B:Nat}(r:B≤w.heap.size)(o: ∀k,k<B→S k):Below B w w':=⟨h.os,h.tape,h.output,h.size,fun k q=>h.block k (by omega) (o k q)⟩
theorem of_but {b:Nat}(h:But b w w'):Spare (fun k=>k≠b) w w':=⟨h.os,h.tape,h.output,h.size,fun k o q=>h.block k o q⟩
theorem of_grown {b:Option Nat}(h:w.grownBy w' b):Spare (fun k=>b≠some k) w w':=⟨h.os,h.tape,h.output,h.size,fun k o q=>h.block k o (fun e=>q e.symm)⟩
end Spare
def QY (big:Bool)(w:World)(p:Nat)(hv:Value)(h0 msg:List Int):Prop:=
 w.heap[p]? =some (.cells (cond big zE zD (stZ big h0 msg (nbk (bB big) msg.length)) ((bB big*nbk (bB big) msg.length:Nat):Int) hv) (cond big 283 291) (0,0))∧
 w.ownsRow 0 5 1 hv (yf (bB big) msg).length ((yf (bB big) msg).map qt)
def zG (p:Nat)(hv:Value):Nat→Prop:=fun k=>k≠p∧hv.ownBlock≠some k
theorem qdp (H:List Int)(o:Int)(q:Value): ∀j,j<2→(zE H o q)[8+j]? =(#[.int .u64 o,.int .u64 0]:Array Value)[j]? :=by
 intro j r;rcases(show j=0∨j=1 by omega)with rfl|rfl<;>rfl
theorem qdo (H:List Int)(o:Int)(q:Value): ∀j,j<2→(zD H o q)[8+j]? =(#[.int .u64 o,.int .u64 0]:Array Value)[j]? :=by
 intro j r;rcases(show j=0∨j=1 by omega)with rfl|rfl<;>rfl
theorem qhJ {H:List Int}(D:Words 64 8 H)(q:Int)(r:Value): ∀j,j<(qj .u64 H).size→(zE H q r)[0+j]? =(qj .u64 H)[j]? :=by
 rw[zZ D];intro j o;have o:j<8:=o;rcases(show j=0∨j=1∨j=2∨j=3∨j=4∨j=5∨j=6∨j=7 by omega)with rfl|rfl|rfl|rfl|rfl|rfl|rfl|rfl<;>rfl
theorem qhI {H:List Int}(D:Words 32 8 H)(q:Int)(r:Value): ∀j,j<(qj .u32 H).size→(zD H q r)[0+j]? =(qj .u32 H)[j]? :=by
 rw[zZ D];intro j o;have o:j<8:=o;rcases(show j=0∨j=1∨j=2∨j=3∨j=4∨j=5∨j=6∨j=7 by omega)with rfl|rfl|rfl|rfl|rfl|rfl|rfl|rfl<;>rfl
theorem qft (H:List Int)(r o:Int)(q:Value):zN (zE H r q) 8 #[.int .u64 o,.int .u64 0]=zE H o q:=rfl
theorem qfs (H:List Int)(r o:Int)(q:Value):zN (zD H r q) 8 #[.int .u64 o,.int .u64 0]=zD H o q:=rfl
theorem qgE {o:List Int}(h:Words 64 8 o)(H:List Int)(q:Int)(r:Value):zN (zE H q r) 0 (qj .u64 o)=zE o q r:=by rw[zZ h];rfl
theorem qgD {o:List Int}(h:Words 32 8 o)(H:List Int)(q:Int)(r:Value):zN (zD H q r) 0 (qj .u32 o)=zD o q r:=by rw[zZ h];rfl
def qiP (big:Bool)(w0:World)(S:Nat→Prop)(p:Nat)(hv0:Value)(h0 msg:List Int)(W:World):Prop:=
 ∃H lo hl hv,W.heap[p]? =some (.cells (cond big zE zD H ((lo:Nat):Int) hv) (cond big 283 291) (0,0))∧W.ownsRow 0 5 1 hv hl.length (hl.map qt)∧hl.length<bB big∧qfI big h0 msg H lo hl∧
  (hv.ownBlock=hv0.ownBlock∨ ∀g,hv.ownBlock=some g→w0.heap.size≤g)∧Spare S w0 W
theorem But.of_setRow (w:World)(p:Nat)(cs:Array Value):But p w (w.setRow p cs):=⟨rfl,rfl,rfl,by simp,fun k _ o=>setRow_other w p k cs o⟩
def qd8:Value→Nat
 | .slice _ n _=>n
 | _=>0
theorem yY {W:World}{B n m:Nat}{e:TypeId}{a:Option Addr}{c:Nat}{xs:List Value}(h:W.ownsRow B e 1 (.slice a m c) n xs):m=n:=by
 rcases h.2 with⟨o,D⟩|⟨g,r,q,o, -⟩
 ·simp only[Value.slice.injEq]at o;omega
 ·simp only[Value.slice.injEq]at o;exact o.2.1
theorem Yk {W W':World}{p:Nat}{v:Value}{n:Nat}{xs:List Value}{c:Array Value}{T:TypeId}{fr:Nat×Nat}(h:W.ownsRow 0 5 1 v n xs)(G:But p W W')(O:W.heap[p]? =some (.cells c T fr))(D:T≠5):W'.ownsRow 0 5 1 v n xs:=by
 refine⟨h.1,?_⟩;rcases h.2 with o|⟨g,q,r,e,U,o,J⟩
 ·exact .inl o
 ·refine .inr ⟨g,q,r,e,U,?_,J⟩;have I:g<W.heap.size:=(Ai o).1;rw[G.block g I ?_];exact o;rintro rfl
  rw[O]at o;simp only[Option.some.injEq,Obj.cells.injEq]at o;exact D o.2.1
theorem jd {W:World}{a:Option Addr}{m c n:Nat}{xs:List Value}(h:W.ownsRow 0 5 1 (.slice a m c) n xs)(q:n≠0): ∃g,a=some ⟨g,0,none⟩:=by
 rcases h.2 with⟨-,o⟩|⟨g,D,r,e, -⟩
 ·exact absurd o q
 ·simp only[Value.slice.injEq]at e;exact⟨g,e.1⟩
theorem qd0 {W:World}{g m c n:Nat}{xs:List Value}(h:W.ownsRow 0 5 1 (.slice (some ⟨g,0,none⟩) m c) n xs):W.ownsRow 0 5 1 (.slice (some ⟨g,0,none⟩) 0 c) 0 []:=by
 refine⟨rfl,?_⟩;rcases h.2 with⟨o, -⟩|⟨J,I,q,e,D,o,O,r,G,U⟩
 ·simp at o
 ·simp only[Value.slice.injEq,Option.some.injEq,Addr.mk.injEq,and_true,true_and]at e;obtain⟨rfl, -,rfl⟩:=e;exact .inr ⟨g,c,q,rfl,D,o,Nat.zero_le _,r,G,rfl⟩
theorem qdb {W:World}{p:Nat}{v:Value}{n:Nat}{xs:List Value}{c:Array Value}{T:TypeId}{fr:Nat×Nat}(h:W.ownsRow 0 5 1 v n xs)(r:W.heap[p]? =some (.cells c T fr))(q:T≠5):some p≠v.ownBlock:=by
 rcases h.2 with⟨rfl, -⟩|⟨g,D,G,rfl,J,o,I⟩
 ·intro e;cases e
 ·intro e;simp only[Value.ownBlock,Option.some.injEq]at e;subst e;rw[r]at o;simp only[Option.some.injEq,Obj.cells.injEq]at o;exact q o.2.1
theorem qcF {w:World}{a:Option Addr}{n c k:Nat}{zs:List Int}(h:Hold w (.slice a n c) zs)(q:k≤zs.length):Hold w (.slice a k c) (zs.take k):=by
 refine⟨fun z J=>h.1 z (List.mem_of_mem_take J),?_⟩;rcases h.2 with⟨rfl,e⟩|⟨D,U,e,V,I,o⟩
 ·simp only[Value.slice.injEq]at e;obtain⟨rfl, -,rfl⟩:=e;obtain rfl:k=0:=by simpa using q
  exact .inl ⟨rfl,rfl⟩
 ·simp only[Value.slice.injEq]at e;obtain⟨rfl, -,rfl⟩:=e;refine .inr ⟨D,c,by simp[List.length_take,Nat.min_eq_left q],by simp;omega,I,?_⟩;rcases o with o|⟨b,off,rfl,o,O⟩
  ·exact .inl (by rw[o];simp)
  ·refine .inr ⟨b,off,rfl,o,fun i G=>?_⟩;have r:i<k:=by simp at G;omega
   rw[O i (by omega)];simp[qr,Lg,r]
theorem zB {w J I:World}{b v:Value}{zs U:List Int}{S:Nat→Prop}(h:Hold I b zs)(hv:Hold w v U)(aa:b.ownBlock=v.ownBlock)(h1:Spare S w I)(V:Spare S w J)(X: ∀k,v.ownBlock=some k→S k)(G:U≠[]):Hold J b zs:=by
 refine⟨h.1,?_⟩;rcases h.2 with h2|⟨ad,Z,rfl,h3,h4,D⟩
 ·exact .inl h2
 ·refine .inr ⟨ad,Z,rfl,h3,h4,?_⟩;rcases D with D|⟨Y,off,rfl,D,h7⟩
  ·exact .inl D
  ·have O:v.ownBlock=some Y:=aa.symm;rcases hv.2 with⟨q, -⟩|⟨ac,ab,rfl, -, -,q⟩
   ·exact absurd q G
   obtain⟨o,o8,rfl,q, -⟩:=q.resolve_left G;obtain rfl:o=Y:=by simpa [Value.ownBlock] using O
   have r:o<w.heap.size:=q;refine .inr ⟨o,off,rfl,Nat.lt_of_lt_of_le r V.size,fun i hi=>?_⟩;have e1:J.heap[o]? =I.heap[o]? :=(V.block o r (X o O)).trans (h1.block o r (X o O)).symm;rw[←h7 i hi];exact World.cell?_of_block e1
theorem qag {w:World}{a:Option Addr}{n c:Nat}{zs:List Int}(h:Hold w (.slice a n c) zs)(o:zs≠[]): ∃b off,a=some ⟨b,off,none⟩:=by
 rcases h.2 with⟨q, -⟩|⟨G,D,e, -, -,r⟩
 ·exact absurd q o
 ·obtain⟨b,off,rfl, -⟩:=r.resolve_left o;simp only[Value.slice.injEq]at e;exact⟨b,off,e.1⟩
theorem jI {w:World}{a q:Option Addr}{n c k I o:Nat}{zs:List Int}(h:Hold w (.slice a n c) zs)(hk:k≤zs.length)(G:I=zs.length - k)(hc:o=c - k)(b off:Nat)(Y:a=some ⟨b,off,none⟩)(D:q=some ⟨b,off+k,none⟩∨q=a∧c=k):Hold w (.slice q I o) (zs.drop k):=by
 subst Y;refine⟨fun z V=>h.1 z (List.mem_of_mem_drop V),?_⟩;rcases h.2 with⟨rfl,e⟩|⟨ad,Z,e,h1,h2,r⟩
 ·simp at e
 ·simp only[Value.slice.injEq,Option.some.injEq]at e;obtain⟨rfl, -,rfl⟩:=e;rcases D with rfl|⟨rfl,aa⟩
  ·refine .inr ⟨⟨b,off+k,none⟩,o,by simp[G],by simp;omega,by omega,?_⟩;rcases r with rfl|⟨b',O,e,r,X⟩
   ·exact .inl (by simp)
   ·simp only[Addr.mk.injEq,and_true]at e;obtain⟨rfl,rfl⟩:=e;refine .inr ⟨b,off+k,rfl,r,fun i U=>?_⟩;have J:k+i<zs.length:=by simp at U;omega
    have:=X (k+i) J
    rw[←Nat.add_assoc]at this;rw[this];simp[qr,Lg]
  ·refine .inr ⟨⟨b,off,none⟩,o,by simp[G],by simp;omega,by omega,.inl ?_⟩;exact List.drop_of_length_le (by omega)
theorem qa4 (h0 ae J:List Int)(hh:Words 64 8 h0)(hm: ∀z∈ae,0≤z∧z≤255)(p:Nat)(hv v:Value)(w:World)(hE:QY true w p hv h0 ae)(hH:Hold w v J)(hF:J≠[]→ ∀b,v.ownBlock=some b→zG p hv b)(cT:(ae.length:Int)+J.length≤140737488355328):
  Calls Tryz.prog 260 #[.pointer (some ⟨p,0,none⟩),v] w fun e w'=>e= .returned (.tuple #[])∧(∃ap,QY true w' p ap h0 (ae++J)∧(ap.ownBlock=hv.ownBlock∨ ∀g,ap.ownBlock=some g→w.heap.size≤g))∧Spare (zG p hv) w w':=by
 obtain⟨i0,hi,cw,cy,cq⟩:=info_parts Qr;have cY:p<w.heap.size:=(Ai hE.1).1;have cQ:=hid hh;have cv:=hid hm;have HE:=hid hE;have HH:=hid hH;have HF:=hid hF;have bE:=hH.1;have HZ:=hid bE;clear hh hm hE hH hF bE;obtain⟨S,hS⟩:=Ex (zG p hv);have HS:=hid hS;rw[hS];clear hS;go_enter Tryz.func260,Tryz.ntmps260
 go_wp2_with fail
 go_loopw [1] (fun b wr=> ∃j:Nat,j≤J.length∧Hold wr b (J.drop j)∧b.ownBlock=v.ownBlock∧(∃ap,QY true wr p ap h0 (ae++J.take j)∧(ap.ownBlock=hv.ownBlock∨ ∀g,ap.ownBlock=some g→w.heap.size≤g))∧Spare S w wr) (fun b _=>qd8 b)
 case atStart=>exact⟨0,Nat.zero_le _,by simpa using HH.out,rfl,⟨hv,by simpa using HE.out,.inl rfl⟩,Spare.refl _ _⟩
 case round=>
  obtain⟨j,hj,bn,cd,⟨cH,bO,aN⟩,bH⟩:=hrel;have cK:=hid bn;have al:=hid bH;have bw:=hid bO;have aR:=hid cd;have ao:=hid aN;obtain⟨ab,cb,rfl,cn,cV⟩:=bn.slice;clear bn bH bO cd aN;by_cases af:j<J.length
  case neg=>
   obtain rfl:j=J.length:=by omega
   have ay:(J.drop J.length).length=0:=by simp
   rw[ay]at*;go_wp2
   go_end0
   have h1:=bw.out;rw[List.take_length]at h1;exact⟨rfl,⟨cH,h1,ao.out⟩,al.out⟩
  have ce:(J.drop j).length=J.length - j:=by simp
  have cN:0<(J.drop j).length:=by omega
  have q:((J.drop j).length:Int)≤140737488355328:=by omega
  obtain⟨m1,aF⟩:=Ex (ae++J.take j);have c7:m1.length≤140737488355328:=by rw[←aF];simp;omega
  have bd: ∀z∈m1,0≤z∧z≤255:=by
   rw[←aF];intro z hz;rcases List.mem_append.1 hz with hz|hz
   ·exact cv.out z hz
   ·exact HZ.out z (List.mem_of_mem_take hz)
  have c4:=hid bd;have cJ:=hid ce;have b4:=bw.out;rw[aF]at b4;have cr:=hid aF;obtain⟨N,hN⟩:=Ex ((J.drop j).length);rw[hN]at cN q cn⊢;have HN:=hid hN;have a6:=JM (YH true) m1;have bP:=qcx true h0 m1;have bg:=qcy true h0 m1;have bt:=jg (YH true) m1;have bL:=zp (n:=bB true) bd;have b8:=yX true cQ.out m1 (nbk (bB true) m1.length);obtain⟨aa,ax⟩:=b4;simp only[cond]at aa;generalize stZ true h0 m1 (nbk (bB true) m1.length)=H1 at*;generalize bB true*nbk (bB true) m1.length=G at*;generalize yf (bB true) m1=hl at*;rw[show bB true=128 from rfl]at bg bt;obtain⟨a1,n1,c1,rfl⟩:=qs ax;have cE:n1=hl.length:=yY ax;subst cE;have aQ:=hid bP;have av:=hid bg;have aV:=hid a6;have bC:=hid bL;have aB:=hid b8;have ba:=hid aa;have bh:=hid ax;have am:wr.cell? ⟨p,10,none⟩=some (.slice a1 hl.length c1):=qd aa 10;have aO:wr.cell? ⟨p,11,none⟩=some (.int .i64 128):=qd aa 11;have aD:=frozen_of_row wr p 10 _ _ aa;have bX:=frozen_of_row wr p 11 _ _ aa;clear aa ax b8 bL a6 bg bP aF bd ce hN;go_upto_region 1 with(fail)
  obtain⟨tb,aC⟩: ∃tb,((hl.length:Int)==128)=tb:=⟨_,rfl⟩;go_quiet (fail)
  go_upto_if 17 with(fail)
  go_cut [1] from 4 (fun b W=>b= .slice ab N cb∧qiP true w S p hv h0 m1 W)
  case first=>
   have ar:Below wr.heap.size wr (wr.drewN nq):=QR nq;have ai:=qg ba.out ar;have aw:=qi bh.out (fun g _ hg=>ar.block g hg);have ad:Spare S w (wr.drewN nq):=al.out.trans (Spare.of_below S ar) (fun _ _ h=>h);clear ar am aO aD bX;generalize wr.drewN nq=W2 at*
   cases tb
   case false=>
    have HT:=hid aC;clear aC;go_wp2
    go_meet
    case rel=>exact⟨rfl,H1,G,hl,_,ai,aw,by have:=beq_eq_false_iff_ne.1 HT.out;show hl.length<128;omega,aQ.out,ao.out,ad⟩
   have ah:hl.length=128:=by have:=eq_of_beq aC;omega
   clear aC;have bz:=hid ah;have b7:=av.out ah;have bR:G+128<9223372036854775808:=by have:=aV.out;omega
   have b5:=hid bR;rw[ah]at ai;clear ah bt av;have av:=hid b7;have ac:=hid ai;have aA:=hid aw;have bW:=hid ad;clear b7 ai aw ad bR;have ci:p<W2.heap.size:=(Ai ac.out).1;go_upto_region 2 with(fail)
   refine yh (fun f W=>(f=false→Below W2.heap.size W2 W)∧(f=true→W.heap[p]? =some (.cells (zE H1 ((G+128:Nat):Int) (.slice a1 128 c1)) 283 (0,0))∧But p W2 W)) 16 [.v 19 (.pointer (some ⟨p,0,none⟩)),.v 20 (.pointer (some ⟨p,0,none⟩)),.v 21 (.pointer (some ⟨p,0,none⟩)),.v 22 (.pointer (some ⟨p,8,none⟩)),.v 23 (.agg #[.int .u64 (G:Nat),.int .u64 0]),.v 24 (.pointer (some ⟨p,0,none⟩)),.v 25 (.pointer (some ⟨p,0,none⟩)),.v 26 (.pointer (some ⟨p,11,none⟩)),.v 27 (.int .i64 128),.v 28 (.int .u64 128),.v 29 (.tuple #[.agg #[.int .u64 ((G+128:Nat):Int),.int .u64 0],.bool false]),.v 18 (.tuple #[.agg #[.int .u64 ((G+128:Nat):Int),.int .u64 0],.bool false]),.v 30 (.agg #[.int .u64 ((G+128:Nat):Int),.int .u64 0]),.v 31 (.bool false),.v 32 (.pointer (some ⟨p,0,none⟩)),.v 33 (.pointer (some ⟨p,8,none⟩)),.f none [] (fun _ _=>True)] (by exact⟨fun _ _ _ _ h=>h,trivial⟩) ⟨fun _=>Br.drew,fun h=>(by cases h)⟩ (fun f W W' h O=>⟨fun e=>(h.1 e).trans (O.mono (h.1 e).size),fun e=>⟨qg (h.2 e).1 O,(h.2 e).2.trans (But.of_below O)⟩⟩) ?_ ?_ ?_
   ·repeat' (with_reducible first|exact qz|refine qx ?_ ?_)
    all_goals try
     refine .inr ?_;intro A x W f r V hf o D K I;have a0:=r.2 0 (by decide);conv at a0=>rhs;whnf
     simp only[QW,Q8]at D;clear o r;go_simp
     exact I _ _ BR rfl
    any_goals exact .inl rfl
    all_goals refine .inr ?_
    ·intro A x W f r V hf o _ K I;have cC:=gw r o 3 22;clear o r;have aE:f=false:=hf (by kernel_rfl);have U:=qg ac.out (V.1 aE);refine Qf 281 _ rfl p 8 cC 283 _ #[.int .u64 (G:Nat),.int .u64 0] (0,0) _ U Tryz.underlying281 rfl (by kernel_rfl) (qdp _ _ _) (I _ _ Br rfl)
    ·intro A x W f r V hf o _ K I;have db:=gw r o 7 26;clear o r;have aE:f=false:=hf (by kernel_rfl);have U:=qg ac.out (V.1 aE);have c0:W.cell? ⟨p,11,none⟩=some (.int .i64 128):=qd U 11;go_simp
     exact I _ _ BR rfl
    ·intro A x W f r V hf o _ K I;have dh:=gw r o 4 23;have c6:=gw r o 9 28;clear o r;go_simp
     refine(qdt G 128 b5.out _).mono ?_;rintro e w' ⟨rfl,O⟩;exact I _ _ O rfl
   ·intro A x W r V o K I;have cA:=gw r o 15 33;have cD:=gw r o 12 30;clear o r;have U:=qg ac.out (V.1 rfl);refine z6 281 _ _ rfl p 8 #[.int .u64 ((G+128:Nat):Int),.int .u64 0] cA cD 283 _ U (by kernel_rfl) (by simp[zE]) (by simp[Value.oneCell']) ?_;rw[qft];refine I _ _ (fun _=>rfl) ⟨fun h=>(by cases h),fun _=>⟨setRow_heap _ _ _ _ _ _ U,(But.of_below (V.1 rfl)).trans (But.of_setRow _ _ _)⟩⟩ ⟨.inr (fun _ h=>h),.inr (fun _ h=>h),.inr (fun _ h=>h),.inr (fun _ h=>h),.inr (fun _ h=>h),.inr (fun _ h=>h),.inr (fun _ h=>h),.inr (fun _ h=>h),.inr (fun _ h=>h),.inr (fun _ h=>h),.inr (fun _ h=>h),.inr (fun _ h=>h),.inr (fun _ h=>h),.inr (fun _ h=>h),.inr (fun _ h=>h),.inr (fun _ h=>h),.inl rfl,trivial⟩ trivial
   intro x W V ak;obtain⟨ck, -⟩:=ak;simp only[QF,Act.put,Ls];obtain⟨bA,aS⟩:=V.2 rfl;have cI:=aS.size;have bc:W.ownsRow 0 5 1 (.slice a1 128 c1) 128 (hl.map qt):=by
    have h1:=aA.out;rw[bz.out]at h1;exact Yk h1 aS ac.out (by decide)
   have bu:Spare S w W:=bW.out.trans (Spare.of_but aS) (fun b _ O=>by have Z:=HS.out;subst Z;exact O.1);have b9:Holds8 W (.slice a1 128 c1) hl:=Q7 bc;have ag:=hid bA;have bJ:=hid bc;have bI:=hid bu;have bN:=hid b9;clear ck V bA aS bc bu b9 x ac aA bW cI ci;generalize W=W3 at*;clear W2;go_upto_region 3 with(fail)
   obtain⟨H2,aU⟩:=Ex (yD true H1 hl ((G+128:Nat):Int) false false);have bS:Words 64 8 H2:=by rw[←aU];exact QV true aB.out _ _ _ _
   have bv:=qd5 H1 hl aB.out (.slice a1 128 c1) (G+128) (by have:=b5.out;omega) false false;have aM:=av.out;rw[aU]at bv aM;have bQ:=hid bv;have cj:=hid aM;have aZ:=hid bS;clear bv aU aM bS av;have cl:p<W3.heap.size:=(Ai ag.out).1;refine qE (n:=18) (w0:=W3) (B:=W3.heap.size) [.v 34 (.pointer (some ⟨p,0,none⟩)),.v 35 (.pointer (some ⟨p,0,none⟩)),.v 36 (.pointer (some ⟨p,0,none⟩)),.v 37 (.pointer (some ⟨p,12,none⟩)),.v 38 (.func (.func 184) #[] #[]),.v 39 (.pointer (some ⟨p,0,none⟩)),.v 40 (.pointer (some ⟨p,0,none⟩)),.v 41 (.pointer (some ⟨p,0,none⟩)),.v 42 (.agg (qj .u64 H1)),.v 43 (.pointer (some ⟨p,0,none⟩)),.v 44 (.pointer (some ⟨p,0,none⟩)),.v 45 (.pointer (some ⟨p,10,none⟩)),.v 46 (.slice a1 128 c1),.v 47 (.pointer (some ⟨p,0,none⟩)),.v 48 (.pointer (some ⟨p,0,none⟩)),.v 49 (.pointer (some ⟨p,8,none⟩)),.v 50 (.agg #[.int .u64 ((G+128:Nat):Int),.int .u64 0]),.v 51 (.agg (qj .u64 H2))] trivial Br.drew Nl ?_ ?_
   ·repeat' (with_reducible first|exact qz|refine qx ?_ ?_)
    all_goals try
     intro A x W r hW an o D K I;have a0:=r.2 0 (by decide);conv at a0=>rhs;whnf
     simp only[QW,Q8]at D;clear o r;go_simp
     exact I _ _ BR rfl
    ·intro A x W r hW an o _ K I;have da:=gv r o 3 37;clear o r;have U:=qg ag.out hW;have c0:W.cell? ⟨p,12,none⟩=some (.func (.func 184) #[] #[]):=qd U 12;go_simp
     exact I _ _ BR rfl
    ·intro A x W r hW an o _ K I;have cR:=gv r o 7 41;clear o r;have U:=qg ag.out hW;refine Qf 274 _ rfl p 0 cR 283 _ (qj .u64 H1) (0,0) _ U Tryz.underlying274 rfl (by rw[qf,aB.out.1];kernel_rfl) (qhJ aB.out _ _) (I _ _ Br rfl)
    ·intro A x W r hW an o _ K I;have c8:=gv r o 11 45;clear o r;have U:=qg ag.out hW;have c0:W.cell? ⟨p,10,none⟩=some (.slice a1 128 c1):=qd U 10;go_simp
     exact I _ _ BR rfl
    ·intro A x W r hW an o _ K I;have ct:=gv r o 15 49;clear o r;have U:=qg ag.out hW;refine Qf 281 _ rfl p 8 ct 283 _ #[.int .u64 ((G+128:Nat):Int),.int .u64 0] (0,0) _ U Tryz.underlying281 rfl (by kernel_rfl) (qdp _ _ _) (I _ _ Br rfl)
    ·intro A x W r hW an o _ K I;have df:=gv r o 4 38;have dg:=gv r o 8 42;have c9:=gv r o 12 46;have dj:=gv r o 16 50;clear o r;go_simp
     refine(bQ.out _ (bN.out.mono_below hW Nl) bC.out bz.out).mono ?_;rintro e w' ⟨rfl,O⟩;exact I _ _ O rfl
   intro x W hW an ak;clear ak;refine qp ?_;simp only[QF,Act.put,Ls];have a8:=qg ag.out hW;have cg:But p W3 W:=But.of_below hW;clear hW an x;go_wp2_with fail
   refine qp ?_;go_wp2_with fail
   refine qp ?_;refine zI rfl 274 _ _ rfl p 0 (qj .u64 H2) rfl rfl 283 _ a8 (by rw[qf,aZ.out.1];kernel_rfl) (by rw[qf,aZ.out.1];simp[zE]) qy ?_;rw[qgE aZ.out];refine qw ?_;have aG:=setRow_heap W p _ (zE H2 ((G+128:Nat):Int) (.slice a1 128 c1)) _ _ a8;have a7:=cg.trans (But.of_setRow W p (zE H2 ((G+128:Nat):Int) (.slice a1 128 c1)));generalize W.setRow p (zE H2 ((G+128:Nat):Int) (.slice a1 128 c1))=W5 at*;have bK:=Yk bJ.out a7 ag.out (by decide);have bl:Spare S w W5:=bI.out.trans (Spare.of_but a7) (fun b _ O=>by have Z:=HS.out;subst Z;exact O.1);have be:=hid bK;have cB:=hid bl;have bT:=hid aG;clear a8 cg a7 bK bl bQ bJ bI ag bN W cl W3;obtain⟨g1,rfl⟩:=jd be.out (by decide);obtain⟨cu, -, -, -, -,ay,bq⟩:=zO be.out;have bD:(c1:Int)≤9223372036854775807:=by unfold maxLen at bq;omega
   have aY:128≤(c1:Int):=by omega
   have am:W5.cell? ⟨p,10,none⟩=some (.slice (some ⟨g1,0,none⟩) 128 c1):=qd aG 10;have aD:=frozen_of_row W5 p 10 _ _ aG;have cW:p<W5.heap.size:=(Ai aG).1;clear aG bq;go_wp2
   go_meet
   case rel=>
    have aj:But p W5 (W5.setCell ⟨p,10,none⟩ (.slice (some ⟨g1,0,none⟩) 0 c1)):=(But.refl p W5).set 10 _;exact⟨rfl,H2,G+128,[],.slice (some ⟨g1,0,none⟩) 0 c1,heap_setCell_same W5 p 10 _ _ _ bT.out,qd0 (Yk be.out aj bT.out (by decide)),by show 0<128;decide,cj.out,ao.out,cB.out.trans (Spare.of_but aj) (fun b _ O=>by have Z:=HS.out;subst Z;exact O.1)⟩
  case rest=>
   clear am aO aD bX aC tb nq ba bh aB bC aV av aQ bt bw;obtain⟨rfl,H2,b3,q,c5,aq,aP,aT,a9,br,ad⟩:=hcut;have ch:=al;clear ao al;simp only[cond]at aq;have cS:q.length<128:=aT;obtain⟨a2,n2,c2,rfl⟩:=qs aP;obtain rfl:n2=q.length:=yY aP;obtain⟨k,hk⟩:=Ex (min N (128 - q.length));have HK:=hid hk;have ac:=hid aq;have aA:=hid aP;have aQ:=hid a9;have ao:=hid br;have al:=hid ad;clear hk aP a9 br ad aT;have am:wc.cell? ⟨p,10,none⟩=some (.slice a2 q.length c2):=qd aq 10;have aO:wc.cell? ⟨p,11,none⟩=some (.int .i64 128):=qd aq 11;have cx:p<wc.heap.size:=(Ai aq).1;clear aq;go_upto_region 5 with(fail)
   go_quiet (fail)
   rw[show min (N:Int) (128 - (q.length:Int))=(k:Int) from by have:=HK.out;omega];have aj:Below wc.heap.size wc (wc.drewN nq):=QR nq;have bk:=qg ac.out aj;have bZ:=qi aA.out (fun g _ hg=>aj.block g hg);have aI:Spare S w (wc.drewN nq):=al.out.trans (Spare.of_below S aj) (fun _ _ h=>h);clear aj am aO ac aA al cx;generalize wc.drewN nq=W6 at*;clear wc;have a5:Hold W6 (.slice ab N cb) (J.drop j):=by
    have h1:=HH.out;have Z:=cK.out;have Y:=aR.out;rw[HN.out]at Z Y;exact zB Z HH.out Y ch.out aI (fun b O=>by have h4:=HS.out;subst h4;exact HF.out (fun e=>by rw[e]at af;simp at af) b O) (fun e=>by rw[e]at af;simp at af)
   obtain⟨X,hX⟩:=Ex ((J.drop j).take k);have ay:1≤k∧k≤N∧q.length+k≤128:=by have:=HK.out;omega
   have bx:X.length=k:=by rw[←hX,List.length_take,HN.out];omega
   have bj:Hold W6 (.slice ab k cb) X:=by rw[←hX];exact qcF a5 (by rw[HN.out];omega)
   have bm:=bj.src;rw[bx]at bm;have HX:=hid hX;have bo:=hid bx;have dd:=hid bj;have cL:=hid bm;have bF:=hid a5;have cc:=hid bk;have cG:=hid bZ;have aL:=hid aI;have cX:p<W6.heap.size:=(Ai bk).1;obtain⟨ay,bq,bD⟩:=ay;have aY:(k:Int)≤N∧(k:Int)≤cb∧1≤(k:Int):=by omega
   obtain⟨aY,de,cZ⟩:=aY;clear hX bx bj bm a5 bk bZ aI;go_upto_region 6 with(fail)
   refine Yb (n:=9) (fun f W=>(f=false→Below W6.heap.size W6 W)∧(f=true→W.heap[p]? =some (.cells (zE H2 ((b3:Nat):Int) (.slice a2 q.length c2)) 283 (0,0))∧Spare (fun b=>(Value.slice a2 q.length c2).ownBlock≠some b) W6 W)) 8 [.v 75 (.pointer (some ⟨p,0,none⟩)),.v 76 (.pointer (some ⟨p,0,none⟩)),.v 77 (.pointer (some ⟨p,0,none⟩)),.v 78 (.pointer (some ⟨p,10,none⟩)),.v 79 (.slice a2 q.length c2),.v 80 (.slice ab N cb),.v 81 (.int .i64 (k:Nat)),.v 82 (.slice ab k cb),.p 83 (fun u W=>W.ownsRow 0 5 1 u (q.length+k) ((q++X).map qt)∧(u.ownBlock=(Value.slice a2 q.length c2).ownBlock∨ ∀g,u.ownBlock=some g→W6.heap.size≤g))] (by exact⟨(fun W W' O u h=>⟨qi h.1 (fun g _ hg=>O.block g hg),h.2⟩),trivial⟩) ⟨fun _=>Br.drew,fun h=>(by cases h)⟩ (fun f W W' h O=>⟨fun e=>(h.1 e).trans (O.mono (h.1 e).size),fun e=>⟨qg (h.2 e).1 O,(h.2 e).2.trans (Spare.of_below _ O) (fun _ _ h=>h)⟩⟩) ?_ ?_ ?_
   ·repeat' (with_reducible first|exact qz|refine qx ?_ ?_)
    all_goals try
     refine .inr ?_;intro A x W f r V hf o D K I;have a0:=r.2 0 (by decide);conv at a0=>rhs;whnf
     have a1:=r.2 1 (by decide);conv at a1=>rhs;whnf
     have a4:=r.2 4 (by decide);conv at a4=>rhs;whnf
     simp only[QW,Q8]at D;clear o r;go_simp
     exact I _ _ BR rfl
    any_goals exact .inl rfl
    all_goals refine .inr ?_
    ·intro A x W f r V hf o _ K I;have dc:=gw r o 3 78;clear o r;have aE:f=false:=hf (by kernel_rfl);have U:=qg cc.out (V.1 aE);have c0:W.cell? ⟨p,10,none⟩=some (.slice a2 q.length c2):=qd U 10;go_simp
     exact I _ _ BR rfl
   ·intro A x W r V o K I;have cF:=gw r o 4 79;have cO:=gw r o 7 82;clear o r;have hB:=V.1 rfl;have ho:=qi cG.out (fun g _ hg=>hB.block g hg);have U:=qg cc.out hB;refine yx _ _ 24 rfl 0 5 i0 (.int .u8 0) 1 Tryz.underlying24 hi cw cy cq rfl (.slice a2 q.length c2) q.length (q.map qt) cF ho (.slice ab k cb) k (X.map qt) cO (cL.out.below hB) (by unfold maxLen;omega) (by omega) (Nat.zero_le _) ?_;intro v' w' h1 Z Y;have h4:w'.heap[p]? =some (.cells (zE H2 ((b3:Nat):Int) (.slice a2 q.length c2)) 283 (0,0)):=(Z.block p (Ai U).1 (qdb ho U (by decide))).trans U;rw[←List.map_append]at h1;refine I v' w' (fun h=>by cases h) ⟨fun h=>(by cases h),fun _=>⟨h4,(Spare.of_below _ hB).trans (Spare.of_grown Z) (fun _ _ h=>h)⟩⟩ ⟨.inr (fun _ h=>h),.inr (fun _ h=>h),.inr (fun _ h=>h),.inr (fun _ h=>h),.inr (fun _ h=>h),.inr (fun _ h=>h),.inr (fun _ h=>h),.inr (fun _ h=>h),.inl rfl,trivial⟩ ⟨h1,?_⟩;rcases Y with Y|Y
    ·exact .inl Y
    ·refine .inr fun g hg=>?_
     rw[Y]at hg;cases hg;exact hB.size
   intro x W V ak;obtain⟨au, -⟩:=ak;change ((fun u W=>W.ownsRow 0 5 1 u (q.length+k) ((q++X).map qt)∧(u.ownBlock=(Value.slice a2 q.length c2).ownBlock∨ ∀g,u.ownBlock=some g→W6.heap.size≤g))) (x 83) W at au
   obtain⟨aH,aW⟩:=V.2 rfl;obtain⟨az,aJ⟩:=au;obtain⟨a3,n3,c3,au⟩:=qs az;rw[au]at az aJ;obtain rfl:n3=q.length+k:=yY az;refine qp ?_;simp only[QF,Act.put,Ls,au];clear au;have am:W.cell? ⟨p,10,none⟩=some (.slice a2 q.length c2):=qd aH 10;have aD:=frozen_of_row W p 10 _ _ aH;have cm:p<W.heap.size:=(Ai aH).1;have bY:=hid aH;have cp:=hid az;have cz:=hid aJ;have bi:=hid aW;clear aH az aJ aW V;go_wp2_with fail
   refine qp ?_;go_wp2_with fail
   refine qp ?_;go_wp2_with fail
   refine qw ?_;obtain⟨bb,ob,rfl⟩:=qag bF.out (fun e=>by have:=HN.out;rw[e]at this;simp at this;omega);have bf:But p W (W.setCell ⟨p,10,none⟩ (.slice a3 (q.length+k) c3)):=(But.refl p W).set 10 _;have cP:=hid (heap_setCell_same W p 10 _ _ (.slice a3 (q.length+k) c3) bY.out);have co:=hid (Yk cp.out bf bY.out (by decide));have aK:Spare S w (W.setCell ⟨p,10,none⟩ (.slice a3 (q.length+k) c3)):=by
    refine(aL.out.trans bi.out ?_).trans (Spare.of_but bf) (fun b _ O=>by have Z:=HS.out;subst Z;exact O.1);intro b di ar;have Z:=HS.out;subst Z;rcases ao.out with Y|Y
    ·rw[Y];exact ar.2
    ·intro e;have:=Y b e;omega
   have bG:Hold (W.setCell ⟨p,10,none⟩ (.slice a3 (q.length+k) c3)) (.slice (some ⟨bb,ob,none⟩) N cb) (J.drop j):=by
    have Y:=aR.out;exact zB bF.out HH.out Y aL.out aK (fun b O=>by have h4:=HS.out;subst h4;exact HF.out (fun e=>by rw[e]at af;simp at af) b O) (fun e=>by rw[e]at af;simp at af)
   have bp:=hid aK;have cM:=hid bG;clear bf aK bG am aD cm;have cU:W6.heap.size≤(W.setCell ⟨p,10,none⟩ (.slice a3 (q.length+k) c3)).heap.size:=by have:=bi.out.size;simpa [World.setCell] using this
   generalize W.setCell ⟨p,10,none⟩ (.slice a3 (q.length+k) c3)=W8 at*;have b6:j+k≤J.length:=by have:=cJ.out;have:=HN.out;omega
   have ca:QY true W8 p (.slice a3 (q.length+k) c3) h0 (ae++J.take (j+k)):=by
    have e0:ae++J.take (j+k)=m1++X:=by rw[←cr.out,←HX.out,List.append_assoc,List.take_add]
    obtain⟨e1,e2,e3⟩:=aQ.out X (by rw[bo.out];omega) (by rw[bo.out];exact bD);rw[e0];unfold QY;rw[e1,e2,e3];exact⟨cP.out,(show(q++X).length=q.length+k by rw[List.length_append,bo.out])▸co.out⟩
   have cf:(Value.slice a3 (q.length+k) c3).ownBlock=hv.ownBlock∨ ∀g,(Value.slice a3 (q.length+k) c3).ownBlock=some g→w.heap.size≤g:=by
    rcases cz.out with Y|Y
    ·rw[Y];exact ao.out
    ·exact .inr fun g hg=>Nat.le_trans aL.out.size (Y g hg)
   have b0:=hid ca;have bU:=hid cf;have bV:=hid (fun(a':Option Addr) (n' c':Nat) (hn:n'=(J.drop j).length - k) (hc:c'=cb - k) (h:a'=some ⟨bb,ob+k,none⟩∨a'=some ⟨bb,ob,none⟩∧cb=k)=>(show Hold W8 (.slice a' n' c') (J.drop (j+k)) by rw[←List.drop_drop];exact jI cM.out (k:=k) (by have:=HN.out;omega) hn hc bb ob rfl h));clear ca cf;by_cases bM:cb=k
   case pos=>
    have aX:=bM;go_wp2
    refine⟨⟨j+k,b6,bV.out _ _ _ (by rw[HN.out]) (by omega) (.inr ⟨rfl,aX⟩),aR.out,⟨_,b0.out,bU.out⟩,bp.out⟩,?_⟩;show N - k<N
    omega
   case neg=>
    have aX:=bM;go_wp2
    refine⟨⟨j+k,b6,bV.out _ _ _ (by rw[HN.out]) (by omega) (.inl rfl),aR.out,⟨_,b0.out,bU.out⟩,bp.out⟩,?_⟩;show N - k<N
    omega
theorem qaq (h0 ae J:List Int)(hh:Words 32 8 h0)(hm: ∀z∈ae,0≤z∧z≤255)(p:Nat)(hv v:Value)(w:World)(hE:QY false w p hv h0 ae)(hH:Hold w v J)(hF:J≠[]→ ∀b,v.ownBlock=some b→zG p hv b)(cT:(ae.length:Int)+J.length≤140737488355328):
  Calls Tryz.prog 266 #[.pointer (some ⟨p,0,none⟩),v] w fun e w'=>e= .returned (.tuple #[])∧(∃ap,QY false w' p ap h0 (ae++J)∧(ap.ownBlock=hv.ownBlock∨ ∀g,ap.ownBlock=some g→w.heap.size≤g))∧Spare (zG p hv) w w':=by
 obtain⟨i0,hi,cw,cy,cq⟩:=info_parts Qr;have cY:p<w.heap.size:=(Ai hE.1).1;have cQ:=hid hh;have cv:=hid hm;have HE:=hid hE;have HH:=hid hH;have HF:=hid hF;have bE:=hH.1;have HZ:=hid bE;clear hh hm hE hH hF bE;obtain⟨S,hS⟩:=Ex (zG p hv);have HS:=hid hS;rw[hS];clear hS;go_enter Tryz.func266,Tryz.ntmps266
 go_wp2_with fail
 go_loopw [1] (fun b wr=> ∃j:Nat,j≤J.length∧Hold wr b (J.drop j)∧b.ownBlock=v.ownBlock∧(∃ap,QY false wr p ap h0 (ae++J.take j)∧(ap.ownBlock=hv.ownBlock∨ ∀g,ap.ownBlock=some g→w.heap.size≤g))∧Spare S w wr) (fun b _=>qd8 b)
 case atStart=>exact⟨0,Nat.zero_le _,by simpa using HH.out,rfl,⟨hv,by simpa using HE.out,.inl rfl⟩,Spare.refl _ _⟩
 case round=>
  obtain⟨j,hj,bn,cd,⟨cH,bO,aN⟩,bH⟩:=hrel;have cK:=hid bn;have al:=hid bH;have bw:=hid bO;have aR:=hid cd;have ao:=hid aN;obtain⟨ab,cb,rfl,cn,cV⟩:=bn.slice;clear bn bH bO cd aN;by_cases af:j<J.length
  case neg=>
   obtain rfl:j=J.length:=by omega
   have ay:(J.drop J.length).length=0:=by simp
   rw[ay]at*;go_wp2
   go_end0
   have h1:=bw.out;rw[List.take_length]at h1;exact⟨rfl,⟨cH,h1,ao.out⟩,al.out⟩
  have ce:(J.drop j).length=J.length - j:=by simp
  have cN:0<(J.drop j).length:=by omega
  have q:((J.drop j).length:Int)≤140737488355328:=by omega
  obtain⟨m1,aF⟩:=Ex (ae++J.take j);have c7:m1.length≤140737488355328:=by rw[←aF];simp;omega
  have bd: ∀z∈m1,0≤z∧z≤255:=by
   rw[←aF];intro z hz;rcases List.mem_append.1 hz with hz|hz
   ·exact cv.out z hz
   ·exact HZ.out z (List.mem_of_mem_take hz)
  have c4:=hid bd;have cJ:=hid ce;have b4:=bw.out;rw[aF]at b4;have cr:=hid aF;obtain⟨N,hN⟩:=Ex ((J.drop j).length);rw[hN]at cN q cn⊢;have HN:=hid hN;have a6:=JM (YH false) m1;have bP:=qcx false h0 m1;have bg:=qcy false h0 m1;have bt:=jg (YH false) m1;have bL:=zp (n:=bB false) bd;have b8:=yX false cQ.out m1 (nbk (bB false) m1.length);obtain⟨aa,ax⟩:=b4;simp only[cond]at aa;generalize stZ false h0 m1 (nbk (bB false) m1.length)=H1 at*;generalize bB false*nbk (bB false) m1.length=G at*;generalize yf (bB false) m1=hl at*;rw[show bB false=64 from rfl]at bg bt;obtain⟨a1,n1,c1,rfl⟩:=qs ax;have cE:n1=hl.length:=yY ax;subst cE;have aQ:=hid bP;have av:=hid bg;have aV:=hid a6;have bC:=hid bL;have aB:=hid b8;have ba:=hid aa;have bh:=hid ax;have am:wr.cell? ⟨p,10,none⟩=some (.slice a1 hl.length c1):=qd aa 10;have aO:wr.cell? ⟨p,11,none⟩=some (.int .i64 64):=qd aa 11;have aD:=frozen_of_row wr p 10 _ _ aa;have bX:=frozen_of_row wr p 11 _ _ aa;clear aa ax b8 bL a6 bg bP aF bd ce hN;go_upto_region 1 with(fail)
  obtain⟨tb,aC⟩: ∃tb,((hl.length:Int)==64)=tb:=⟨_,rfl⟩;go_quiet (fail)
  go_upto_if 17 with(fail)
  go_cut [1] from 4 (fun b W=>b= .slice ab N cb∧qiP false w S p hv h0 m1 W)
  case first=>
   have ar:Below wr.heap.size wr (wr.drewN nq):=QR nq;have ai:=qg ba.out ar;have aw:=qi bh.out (fun g _ hg=>ar.block g hg);have ad:Spare S w (wr.drewN nq):=al.out.trans (Spare.of_below S ar) (fun _ _ h=>h);clear ar am aO aD bX;generalize wr.drewN nq=W2 at*
   cases tb
   case false=>
    have HT:=hid aC;clear aC;go_wp2
    go_meet
    case rel=>exact⟨rfl,H1,G,hl,_,ai,aw,by have:=beq_eq_false_iff_ne.1 HT.out;show hl.length<64;omega,aQ.out,ao.out,ad⟩
   have ah:hl.length=64:=by have:=eq_of_beq aC;omega
   clear aC;have bz:=hid ah;have b7:=av.out ah;have bR:G+64<9223372036854775808:=by have:=aV.out;omega
   have b5:=hid bR;rw[ah]at ai;clear ah bt av;have av:=hid b7;have ac:=hid ai;have aA:=hid aw;have bW:=hid ad;clear b7 ai aw ad bR;have ci:p<W2.heap.size:=(Ai ac.out).1;go_upto_region 2 with(fail)
   refine yh (fun f W=>(f=false→Below W2.heap.size W2 W)∧(f=true→W.heap[p]? =some (.cells (zD H1 ((G+64:Nat):Int) (.slice a1 64 c1)) 291 (0,0))∧But p W2 W)) 16 [.v 19 (.pointer (some ⟨p,0,none⟩)),.v 20 (.pointer (some ⟨p,0,none⟩)),.v 21 (.pointer (some ⟨p,0,none⟩)),.v 22 (.pointer (some ⟨p,8,none⟩)),.v 23 (.agg #[.int .u64 (G:Nat),.int .u64 0]),.v 24 (.pointer (some ⟨p,0,none⟩)),.v 25 (.pointer (some ⟨p,0,none⟩)),.v 26 (.pointer (some ⟨p,11,none⟩)),.v 27 (.int .i64 64),.v 28 (.int .u64 64),.v 29 (.tuple #[.agg #[.int .u64 ((G+64:Nat):Int),.int .u64 0],.bool false]),.v 18 (.tuple #[.agg #[.int .u64 ((G+64:Nat):Int),.int .u64 0],.bool false]),.v 30 (.agg #[.int .u64 ((G+64:Nat):Int),.int .u64 0]),.v 31 (.bool false),.v 32 (.pointer (some ⟨p,0,none⟩)),.v 33 (.pointer (some ⟨p,8,none⟩)),.f none [] (fun _ _=>True)] (by exact⟨fun _ _ _ _ h=>h,trivial⟩) ⟨fun _=>Br.drew,fun h=>(by cases h)⟩ (fun f W W' h O=>⟨fun e=>(h.1 e).trans (O.mono (h.1 e).size),fun e=>⟨qg (h.2 e).1 O,(h.2 e).2.trans (But.of_below O)⟩⟩) ?_ ?_ ?_
   ·repeat' (with_reducible first|exact qz|refine qx ?_ ?_)
    all_goals try
     refine .inr ?_;intro A x W f r V hf o D K I;have a0:=r.2 0 (by decide);conv at a0=>rhs;whnf
     simp only[QW,Q8]at D;clear o r;go_simp
     exact I _ _ BR rfl
    any_goals exact .inl rfl
    all_goals refine .inr ?_
    ·intro A x W f r V hf o _ K I;have cC:=gw r o 3 22;clear o r;have aE:f=false:=hf (by kernel_rfl);have U:=qg ac.out (V.1 aE);refine Qf 281 _ rfl p 8 cC 291 _ #[.int .u64 (G:Nat),.int .u64 0] (0,0) _ U Tryz.underlying281 rfl (by kernel_rfl) (qdo _ _ _) (I _ _ Br rfl)
    ·intro A x W f r V hf o _ K I;have db:=gw r o 7 26;clear o r;have aE:f=false:=hf (by kernel_rfl);have U:=qg ac.out (V.1 aE);have c0:W.cell? ⟨p,11,none⟩=some (.int .i64 64):=qd U 11;go_simp
     exact I _ _ BR rfl
    ·intro A x W f r V hf o _ K I;have dh:=gw r o 4 23;have c6:=gw r o 9 28;clear o r;go_simp
     refine(qdt G 64 b5.out _).mono ?_;rintro e w' ⟨rfl,O⟩;exact I _ _ O rfl
   ·intro A x W r V o K I;have cA:=gw r o 15 33;have cD:=gw r o 12 30;clear o r;have U:=qg ac.out (V.1 rfl);refine z6 281 _ _ rfl p 8 #[.int .u64 ((G+64:Nat):Int),.int .u64 0] cA cD 291 _ U (by kernel_rfl) (by simp[zD]) (by simp[Value.oneCell']) ?_;rw[qfs];refine I _ _ (fun _=>rfl) ⟨fun h=>(by cases h),fun _=>⟨setRow_heap _ _ _ _ _ _ U,(But.of_below (V.1 rfl)).trans (But.of_setRow _ _ _)⟩⟩ ⟨.inr (fun _ h=>h),.inr (fun _ h=>h),.inr (fun _ h=>h),.inr (fun _ h=>h),.inr (fun _ h=>h),.inr (fun _ h=>h),.inr (fun _ h=>h),.inr (fun _ h=>h),.inr (fun _ h=>h),.inr (fun _ h=>h),.inr (fun _ h=>h),.inr (fun _ h=>h),.inr (fun _ h=>h),.inr (fun _ h=>h),.inr (fun _ h=>h),.inr (fun _ h=>h),.inl rfl,trivial⟩ trivial
   intro x W V ak;obtain⟨ck, -⟩:=ak;simp only[QF,Act.put,Ls];obtain⟨bA,aS⟩:=V.2 rfl;have cI:=aS.size;have bc:W.ownsRow 0 5 1 (.slice a1 64 c1) 64 (hl.map qt):=by
    have h1:=aA.out;rw[bz.out]at h1;exact Yk h1 aS ac.out (by decide)
   have bu:Spare S w W:=bW.out.trans (Spare.of_but aS) (fun b _ O=>by have Z:=HS.out;subst Z;exact O.1);have b9:Holds8 W (.slice a1 64 c1) hl:=Q7 bc;have ag:=hid bA;have bJ:=hid bc;have bI:=hid bu;have bN:=hid b9;clear ck V bA aS bc bu b9 x ac aA bW cI ci;generalize W=W3 at*;clear W2;go_upto_region 3 with(fail)
   obtain⟨H2,aU⟩:=Ex (yD false H1 hl ((G+64:Nat):Int) false false);have bS:Words 32 8 H2:=by rw[←aU];exact QV false aB.out _ _ _ _
   have bv:=qcz H1 hl aB.out (.slice a1 64 c1) (G+64) (by have:=b5.out;omega) false false;have aM:=av.out;rw[aU]at bv aM;have bQ:=hid bv;have cj:=hid aM;have aZ:=hid bS;clear bv aU aM bS av;have cl:p<W3.heap.size:=(Ai ag.out).1;refine qE (n:=18) (w0:=W3) (B:=W3.heap.size) [.v 34 (.pointer (some ⟨p,0,none⟩)),.v 35 (.pointer (some ⟨p,0,none⟩)),.v 36 (.pointer (some ⟨p,0,none⟩)),.v 37 (.pointer (some ⟨p,12,none⟩)),.v 38 (.func (.func 187) #[] #[]),.v 39 (.pointer (some ⟨p,0,none⟩)),.v 40 (.pointer (some ⟨p,0,none⟩)),.v 41 (.pointer (some ⟨p,0,none⟩)),.v 42 (.agg (qj .u32 H1)),.v 43 (.pointer (some ⟨p,0,none⟩)),.v 44 (.pointer (some ⟨p,0,none⟩)),.v 45 (.pointer (some ⟨p,10,none⟩)),.v 46 (.slice a1 64 c1),.v 47 (.pointer (some ⟨p,0,none⟩)),.v 48 (.pointer (some ⟨p,0,none⟩)),.v 49 (.pointer (some ⟨p,8,none⟩)),.v 50 (.agg #[.int .u64 ((G+64:Nat):Int),.int .u64 0]),.v 51 (.agg (qj .u32 H2))] trivial Br.drew Nl ?_ ?_
   ·repeat' (with_reducible first|exact qz|refine qx ?_ ?_)
    all_goals try
     intro A x W r hW an o D K I;have a0:=r.2 0 (by decide);conv at a0=>rhs;whnf
     simp only[QW,Q8]at D;clear o r;go_simp
     exact I _ _ BR rfl
    ·intro A x W r hW an o _ K I;have da:=gv r o 3 37;clear o r;have U:=qg ag.out hW;have c0:W.cell? ⟨p,12,none⟩=some (.func (.func 187) #[] #[]):=qd U 12;go_simp
     exact I _ _ BR rfl
    ·intro A x W r hW an o _ K I;have cR:=gv r o 7 41;clear o r;have U:=qg ag.out hW;refine Qf 284 _ rfl p 0 cR 291 _ (qj .u32 H1) (0,0) _ U Tryz.underlying284 rfl (by rw[qf,aB.out.1];kernel_rfl) (qhI aB.out _ _) (I _ _ Br rfl)
    ·intro A x W r hW an o _ K I;have c8:=gv r o 11 45;clear o r;have U:=qg ag.out hW;have c0:W.cell? ⟨p,10,none⟩=some (.slice a1 64 c1):=qd U 10;go_simp
     exact I _ _ BR rfl
    ·intro A x W r hW an o _ K I;have ct:=gv r o 15 49;clear o r;have U:=qg ag.out hW;refine Qf 281 _ rfl p 8 ct 291 _ #[.int .u64 ((G+64:Nat):Int),.int .u64 0] (0,0) _ U Tryz.underlying281 rfl (by kernel_rfl) (qdo _ _ _) (I _ _ Br rfl)
    ·intro A x W r hW an o _ K I;have df:=gv r o 4 38;have dg:=gv r o 8 42;have c9:=gv r o 12 46;have dj:=gv r o 16 50;clear o r;go_simp
     refine(bQ.out _ (bN.out.mono_below hW Nl) bC.out bz.out).mono ?_;rintro e w' ⟨rfl,O⟩;exact I _ _ O rfl
   intro x W hW an ak;clear ak;refine qp ?_;simp only[QF,Act.put,Ls];have a8:=qg ag.out hW;have cg:But p W3 W:=But.of_below hW;clear hW an x;go_wp2_with fail
   refine qp ?_;go_wp2_with fail
   refine qp ?_;refine zI rfl 284 _ _ rfl p 0 (qj .u32 H2) rfl rfl 291 _ a8 (by rw[qf,aZ.out.1];kernel_rfl) (by rw[qf,aZ.out.1];simp[zD]) qy ?_;rw[qgD aZ.out];refine qw ?_;have aG:=setRow_heap W p _ (zD H2 ((G+64:Nat):Int) (.slice a1 64 c1)) _ _ a8;have a7:=cg.trans (But.of_setRow W p (zD H2 ((G+64:Nat):Int) (.slice a1 64 c1)));generalize W.setRow p (zD H2 ((G+64:Nat):Int) (.slice a1 64 c1))=W5 at*;have bK:=Yk bJ.out a7 ag.out (by decide);have bl:Spare S w W5:=bI.out.trans (Spare.of_but a7) (fun b _ O=>by have Z:=HS.out;subst Z;exact O.1);have be:=hid bK;have cB:=hid bl;have bT:=hid aG;clear a8 cg a7 bK bl bQ bJ bI ag bN W cl W3;obtain⟨g1,rfl⟩:=jd be.out (by decide);obtain⟨cu, -, -, -, -,ay,bq⟩:=zO be.out;have bD:(c1:Int)≤9223372036854775807:=by unfold maxLen at bq;omega
   have aY:64≤(c1:Int):=by omega
   have am:W5.cell? ⟨p,10,none⟩=some (.slice (some ⟨g1,0,none⟩) 64 c1):=qd aG 10;have aD:=frozen_of_row W5 p 10 _ _ aG;have cW:p<W5.heap.size:=(Ai aG).1;clear aG bq;go_wp2
   go_meet
   case rel=>
    have aj:But p W5 (W5.setCell ⟨p,10,none⟩ (.slice (some ⟨g1,0,none⟩) 0 c1)):=(But.refl p W5).set 10 _;exact⟨rfl,H2,G+64,[],.slice (some ⟨g1,0,none⟩) 0 c1,heap_setCell_same W5 p 10 _ _ _ bT.out,qd0 (Yk be.out aj bT.out (by decide)),by show 0<64;decide,cj.out,ao.out,cB.out.trans (Spare.of_but aj) (fun b _ O=>by have Z:=HS.out;subst Z;exact O.1)⟩
  case rest=>
   clear am aO aD bX aC tb nq ba bh aB bC aV av aQ bt bw;obtain⟨rfl,H2,b3,q,c5,aq,aP,aT,a9,br,ad⟩:=hcut;have ch:=al;clear ao al;simp only[cond]at aq;have cS:q.length<64:=aT;obtain⟨a2,n2,c2,rfl⟩:=qs aP;obtain rfl:n2=q.length:=yY aP;obtain⟨k,hk⟩:=Ex (min N (64 - q.length));have HK:=hid hk;have ac:=hid aq;have aA:=hid aP;have aQ:=hid a9;have ao:=hid br;have al:=hid ad;clear hk aP a9 br ad aT;have am:wc.cell? ⟨p,10,none⟩=some (.slice a2 q.length c2):=qd aq 10;have aO:wc.cell? ⟨p,11,none⟩=some (.int .i64 64):=qd aq 11;have cx:p<wc.heap.size:=(Ai aq).1;clear aq;go_upto_region 5 with(fail)
   go_quiet (fail)
   rw[show min (N:Int) (64 - (q.length:Int))=(k:Int) from by have:=HK.out;omega];have aj:Below wc.heap.size wc (wc.drewN nq):=QR nq;have bk:=qg ac.out aj;have bZ:=qi aA.out (fun g _ hg=>aj.block g hg);have aI:Spare S w (wc.drewN nq):=al.out.trans (Spare.of_below S aj) (fun _ _ h=>h);clear aj am aO ac aA al cx;generalize wc.drewN nq=W6 at*;clear wc;have a5:Hold W6 (.slice ab N cb) (J.drop j):=by
    have h1:=HH.out;have Z:=cK.out;have Y:=aR.out;rw[HN.out]at Z Y;exact zB Z HH.out Y ch.out aI (fun b O=>by have h4:=HS.out;subst h4;exact HF.out (fun e=>by rw[e]at af;simp at af) b O) (fun e=>by rw[e]at af;simp at af)
   obtain⟨X,hX⟩:=Ex ((J.drop j).take k);have ay:1≤k∧k≤N∧q.length+k≤64:=by have:=HK.out;omega
   have bx:X.length=k:=by rw[←hX,List.length_take,HN.out];omega
   have bj:Hold W6 (.slice ab k cb) X:=by rw[←hX];exact qcF a5 (by rw[HN.out];omega)
   have bm:=bj.src;rw[bx]at bm;have HX:=hid hX;have bo:=hid bx;have dd:=hid bj;have cL:=hid bm;have bF:=hid a5;have cc:=hid bk;have cG:=hid bZ;have aL:=hid aI;have cX:p<W6.heap.size:=(Ai bk).1;obtain⟨ay,bq,bD⟩:=ay;have aY:(k:Int)≤N∧(k:Int)≤cb∧1≤(k:Int):=by omega
   obtain⟨aY,de,cZ⟩:=aY;clear hX bx bj bm a5 bk bZ aI;go_upto_region 6 with(fail)
   refine Yb (n:=9) (fun f W=>(f=false→Below W6.heap.size W6 W)∧(f=true→W.heap[p]? =some (.cells (zD H2 ((b3:Nat):Int) (.slice a2 q.length c2)) 291 (0,0))∧Spare (fun b=>(Value.slice a2 q.length c2).ownBlock≠some b) W6 W)) 8 [.v 75 (.pointer (some ⟨p,0,none⟩)),.v 76 (.pointer (some ⟨p,0,none⟩)),.v 77 (.pointer (some ⟨p,0,none⟩)),.v 78 (.pointer (some ⟨p,10,none⟩)),.v 79 (.slice a2 q.length c2),.v 80 (.slice ab N cb),.v 81 (.int .i64 (k:Nat)),.v 82 (.slice ab k cb),.p 83 (fun u W=>W.ownsRow 0 5 1 u (q.length+k) ((q++X).map qt)∧(u.ownBlock=(Value.slice a2 q.length c2).ownBlock∨ ∀g,u.ownBlock=some g→W6.heap.size≤g))] (by exact⟨(fun W W' O u h=>⟨qi h.1 (fun g _ hg=>O.block g hg),h.2⟩),trivial⟩) ⟨fun _=>Br.drew,fun h=>(by cases h)⟩ (fun f W W' h O=>⟨fun e=>(h.1 e).trans (O.mono (h.1 e).size),fun e=>⟨qg (h.2 e).1 O,(h.2 e).2.trans (Spare.of_below _ O) (fun _ _ h=>h)⟩⟩) ?_ ?_ ?_
   ·repeat' (with_reducible first|exact qz|refine qx ?_ ?_)
    all_goals try
     refine .inr ?_;intro A x W f r V hf o D K I;have a0:=r.2 0 (by decide);conv at a0=>rhs;whnf
     have a1:=r.2 1 (by decide);conv at a1=>rhs;whnf
     have a4:=r.2 4 (by decide);conv at a4=>rhs;whnf
     simp only[QW,Q8]at D;clear o r;go_simp
     exact I _ _ BR rfl
    any_goals exact .inl rfl
    all_goals refine .inr ?_
    ·intro A x W f r V hf o _ K I;have dc:=gw r o 3 78;clear o r;have aE:f=false:=hf (by kernel_rfl);have U:=qg cc.out (V.1 aE);have c0:W.cell? ⟨p,10,none⟩=some (.slice a2 q.length c2):=qd U 10;go_simp
     exact I _ _ BR rfl
   ·intro A x W r V o K I;have cF:=gw r o 4 79;have cO:=gw r o 7 82;clear o r;have hB:=V.1 rfl;have ho:=qi cG.out (fun g _ hg=>hB.block g hg);have U:=qg cc.out hB;refine yx _ _ 24 rfl 0 5 i0 (.int .u8 0) 1 Tryz.underlying24 hi cw cy cq rfl (.slice a2 q.length c2) q.length (q.map qt) cF ho (.slice ab k cb) k (X.map qt) cO (cL.out.below hB) (by unfold maxLen;omega) (by omega) (Nat.zero_le _) ?_;intro v' w' h1 Z Y;have h4:w'.heap[p]? =some (.cells (zD H2 ((b3:Nat):Int) (.slice a2 q.length c2)) 291 (0,0)):=(Z.block p (Ai U).1 (qdb ho U (by decide))).trans U;rw[←List.map_append]at h1;refine I v' w' (fun h=>by cases h) ⟨fun h=>(by cases h),fun _=>⟨h4,(Spare.of_below _ hB).trans (Spare.of_grown Z) (fun _ _ h=>h)⟩⟩ ⟨.inr (fun _ h=>h),.inr (fun _ h=>h),.inr (fun _ h=>h),.inr (fun _ h=>h),.inr (fun _ h=>h),.inr (fun _ h=>h),.inr (fun _ h=>h),.inr (fun _ h=>h),.inl rfl,trivial⟩ ⟨h1,?_⟩;rcases Y with Y|Y
    ·exact .inl Y
    ·refine .inr fun g hg=>?_
     rw[Y]at hg;cases hg;exact hB.size
   intro x W V ak;obtain⟨au, -⟩:=ak;change ((fun u W=>W.ownsRow 0 5 1 u (q.length+k) ((q++X).map qt)∧(u.ownBlock=(Value.slice a2 q.length c2).ownBlock∨ ∀g,u.ownBlock=some g→W6.heap.size≤g))) (x 83) W at au
   obtain⟨aH,aW⟩:=V.2 rfl;obtain⟨az,aJ⟩:=au;obtain⟨a3,n3,c3,au⟩:=qs az;rw[au]at az aJ;obtain rfl:n3=q.length+k:=yY az;refine qp ?_;simp only[QF,Act.put,Ls,au];clear au;have am:W.cell? ⟨p,10,none⟩=some (.slice a2 q.length c2):=qd aH 10;have aD:=frozen_of_row W p 10 _ _ aH;have cm:p<W.heap.size:=(Ai aH).1;have bY:=hid aH;have cp:=hid az;have cz:=hid aJ;have bi:=hid aW;clear aH az aJ aW V;go_wp2_with fail
   refine qp ?_;go_wp2_with fail
   refine qp ?_;go_wp2_with fail
   refine qw ?_;obtain⟨bb,ob,rfl⟩:=qag bF.out (fun e=>by have:=HN.out;rw[e]at this;simp at this;omega);have bf:But p W (W.setCell ⟨p,10,none⟩ (.slice a3 (q.length+k) c3)):=(But.refl p W).set 10 _;have cP:=hid (heap_setCell_same W p 10 _ _ (.slice a3 (q.length+k) c3) bY.out);have co:=hid (Yk cp.out bf bY.out (by decide));have aK:Spare S w (W.setCell ⟨p,10,none⟩ (.slice a3 (q.length+k) c3)):=by
    refine(aL.out.trans bi.out ?_).trans (Spare.of_but bf) (fun b _ O=>by have Z:=HS.out;subst Z;exact O.1);intro b di ar;have Z:=HS.out;subst Z;rcases ao.out with Y|Y
    ·rw[Y];exact ar.2
    ·intro e;have:=Y b e;omega
   have bG:Hold (W.setCell ⟨p,10,none⟩ (.slice a3 (q.length+k) c3)) (.slice (some ⟨bb,ob,none⟩) N cb) (J.drop j):=by
    have Y:=aR.out;exact zB bF.out HH.out Y aL.out aK (fun b O=>by have h4:=HS.out;subst h4;exact HF.out (fun e=>by rw[e]at af;simp at af) b O) (fun e=>by rw[e]at af;simp at af)
   have bp:=hid aK;have cM:=hid bG;clear bf aK bG am aD cm;have cU:W6.heap.size≤(W.setCell ⟨p,10,none⟩ (.slice a3 (q.length+k) c3)).heap.size:=by have:=bi.out.size;simpa [World.setCell] using this
   generalize W.setCell ⟨p,10,none⟩ (.slice a3 (q.length+k) c3)=W8 at*;have b6:j+k≤J.length:=by have:=cJ.out;have:=HN.out;omega
   have ca:QY false W8 p (.slice a3 (q.length+k) c3) h0 (ae++J.take (j+k)):=by
    have e0:ae++J.take (j+k)=m1++X:=by rw[←cr.out,←HX.out,List.append_assoc,List.take_add]
    obtain⟨e1,e2,e3⟩:=aQ.out X (by rw[bo.out];omega) (by rw[bo.out];exact bD);rw[e0];unfold QY;rw[e1,e2,e3];exact⟨cP.out,(show(q++X).length=q.length+k by rw[List.length_append,bo.out])▸co.out⟩
   have cf:(Value.slice a3 (q.length+k) c3).ownBlock=hv.ownBlock∨ ∀g,(Value.slice a3 (q.length+k) c3).ownBlock=some g→w.heap.size≤g:=by
    rcases cz.out with Y|Y
    ·rw[Y];exact ao.out
    ·exact .inr fun g hg=>Nat.le_trans aL.out.size (Y g hg)
   have b0:=hid ca;have bU:=hid cf;have bV:=hid (fun(a':Option Addr) (n' c':Nat) (hn:n'=(J.drop j).length - k) (hc:c'=cb - k) (h:a'=some ⟨bb,ob+k,none⟩∨a'=some ⟨bb,ob,none⟩∧cb=k)=>(show Hold W8 (.slice a' n' c') (J.drop (j+k)) by rw[←List.drop_drop];exact jI cM.out (k:=k) (by have:=HN.out;omega) hn hc bb ob rfl h));clear ca cf;by_cases bM:cb=k
   case pos=>
    have aX:=bM;go_wp2
    refine⟨⟨j+k,b6,bV.out _ _ _ (by rw[HN.out]) (by omega) (.inr ⟨rfl,aX⟩),aR.out,⟨_,b0.out,bU.out⟩,bp.out⟩,?_⟩;show N - k<N
    omega
   case neg=>
    have aX:=bM;go_wp2
    refine⟨⟨j+k,b6,bV.out _ _ _ (by rw[HN.out]) (by omega) (.inl rfl),aR.out,⟨_,b0.out,bU.out⟩,bp.out⟩,?_⟩;show N - k<N
    omega
end Go.Proofs.YthjoojnlnlmljaaGreat
