/- Parts of rows: loaded, stored; noughts appended where there is room. No condition. -/
import Derived.Test.YthjoojnlnlmljaaGreatB23
import Derived.Laws.CopyRow
import Derived.Laws.MakeOwn
set_option linter.all false
set_option maxRecDepth 100000
set_option maxHeartbeats 8000000
namespace Go.Proofs.YthjoojnlnlmljaaGreat
open Go Go.ChangeShapes Go.WideShapes Go.ChangeAt Go.RowKit Go.Joins Go.Shelf Go.Maps
theorem qai {P:Program}(w:World)(t S ty e:TypeId)(k:IntKind)(i:TypeInfo)(z:Value)(Z:P.underlying t=some (.slice e))(I:P.underlying S=some (.int k))(hi:P.info? e=some i)(hz:i.zero=some z)(D:i.size=1)(V:z.cells= #[z])
  (g n G m:Nat) (q:Array Value) (hg:w.heap[g]? =some (.cells q e (0,0))) (o:n+m≤G) (J:n+m≤q.size) (hm:(m:Int)<9223372036854775808) (hb:(m:Int)*i.bytes≤281474976710656) (h1:z.oneCell'=true):
  (Builtin.append_ #[t,S] ty #[.slice (some ⟨g,0,none⟩) n G,.int .i64 (m:Int)]).run P w=
   .ok (.slice (some ⟨g,0,none⟩) (n+m) G) (w.setRow g (q.toList.take n++List.replicate m z++q.toList.drop (n+m)).toArray):=by
 have hw:IntKind.i64.wrap (m:Int)=(m:Int):=by rw[IntKind.wrap_i64];omega
 have U: ¬(m:Int)<0:=by omega
 have aa: ¬(m:Int)*(i.bytes:Int)>281474976710656:=by omega
 have r:=run_storeCells_at P g n e (List.replicate m z) 0 q w hg (by simpa using J) (fun v hv=>by rw[List.eq_of_mem_replicate hv];exact h1);simp only[Nat.add_zero,List.length_replicate]at r;by_cases X:m=0
 ·subst X;simp only[List.replicate_zero]at r⊢;have Y:IntKind.i64.wrap 0=0:=rfl;simp only[Nat.add_zero]at o;simp[Builtin.append_,run_underlying Z,run_underlying I,sizeOf,typeInfo,hi,D,asInt,asIntOf,Y,o,Addr.add_lit]at r⊢
  rw[r];rfl
 ·have O:(Builtin.zeroCells #[z] m).toList=List.replicate m z:=by
   simp[Builtin.zeroCells,Nat.mod_one]
   apply List.ext_getElem?
   intro j;simp only[List.getElem?_map,List.getElem?_range',List.getElem?_replicate];by_cases hj:j<m<;>simp[hj,Nat.mod_one]
  simp[Builtin.append_,run_underlying Z,run_underlying I,sizeOf,typeInfo,hi,D,asInt,asIntOf,hw,U,aa,o,X,zeroValue,hz,V,O,Addr.add_lit,r]
theorem j9 {P:Program}{w:World}{ops:Array Oper}{o:Oper}{l:List Oper}{a:Act}{Q:Exit→Act→World→Prop}(V:o.guard=none)(s x:Operand)(t I:TypeId)
  (ho:o.op= .call { callee:= .builtin .append,args:= #[s,x],argTypes:= #[t,I] }) (e:TypeId) (k:IntKind) (i:TypeInfo) (z:Value) (ht:P.underlying t=some (.slice e)) (S:P.underlying I=some (.int k)) (hi:P.info? e=some i) (hz:i.zero=some z) (D:i.size=1) (U:z.cells= #[z])
  (g n r m:Nat) (q:Array Value) (hs:a.eval s= .slice (some ⟨g,0,none⟩) n r) (X:a.eval x= .int .i64 (m:Int)) (hg:w.heap[g]? =some (.cells q e (0,0))) (G:n+m≤r) (O:n+m≤q.size) (Z:(m:Int)<9223372036854775808) (hb:(m:Int)*i.bytes≤281474976710656) (Y:z.oneCell'=true)
  (h:wpList P ops Q l (a.put o.dst (.slice (some ⟨g,0,none⟩) (n+m) r)) (w.setRow g (q.toList.take n++List.replicate m z++q.toList.drop (n+m)).toArray)):wpList P ops Q (o::l) a w:=by
 refine wpList_plain V fun K hK=>?_
 have J:=qai (P:=P) w t I o.type e k i z ht S hi hz D U g n r m q hg G O Z hb Y;unfold Oper.wp execOp;simp only[ho,resolve,invoke,builtin,Sem.run_bind,Sem.run_pure,Result.andThen_ok,List.map_toArray,List.map_cons,List.map_nil,hs,X,J];exact hK _ _ h
def Ze (cur:Array Value)(o:Nat)(cells:Array Value):Array Value:=(cur.toList.take o++cells.toList++cur.toList.drop (o+cells.size)).toArray
theorem JK {P:Program}(w:World)(g off:Nat)(t r:TypeId)(q o:Array Value)(O:w.heap[g]? =some (.cells q t (0,0)))(hi:(P.info? r).map (·.size)=some o.size)
  (G:off+o.size≤q.size) (D:o.all (·.oneCell')=true):
  (storeVar r ⟨g,off,none⟩ (.agg o)).run P w= .ok () (w.setRow g (Ze q off o)):=by
 have:=run_storeCells_at P g off t o.toList 0 q w O (by simpa using G) (fun v J=>(Array.all_eq_true_iff_forall_mem.1 D) v (by simpa using J))
 cases hq:P.info? r with
 | none=>simp[hq]at hi
 | some i=>
  have I:o.size=i.size:=by simp[hq]at hi;omega
  simp only[Nat.add_zero,Array.length_toList]at this;simp[storeVar,sizeOf,typeInfo,hq,Value.cells,I,Ze]at this⊢
  exact this
theorem Zs {P:Program}{o:Oper}{a:Act}{w:World}{K:Act→World→Prop}{Q:Exit→Act→World→Prop}(D:TypeId)(x y:Operand)(S:o.op= .store D x y)
  (g off:Nat) (q:Array Value) (I:a.eval x= .pointer (some ⟨g,off,none⟩)) (U:a.eval y= .agg q)
  (t:TypeId) (r:Array Value) (O:w.heap[g]? =some (.cells r t (0,0))) (hi:(P.info? D).map (·.size)=some q.size)
  (G:off+q.size≤r.size) (J:q.all (·.oneCell')=true)
  (h:K (a.put o.dst undef) (w.setRow g (Ze r off q))):o.wp P a w K Q:=by
 unfold Oper.wp execOp;simp only[S,I,U,Instr.storeAt,Instr.sureAddr,Sem.run_bind,Sem.run_pure,Result.andThen_ok,JK w g off t D r q O hi G J];exact h
theorem z9 {P:Program}{ops:Array Oper}{D:List Oper}{o:Oper}{a:Act}{w:World}{Q:Exit→Act→World→Prop}(J:o.guard=none)(G:TypeId)(x y:Operand)(V:o.op= .store G x y)
  (g off:Nat) (q:Array Value) (O:a.eval x= .pointer (some ⟨g,off,none⟩)) (X:a.eval y= .agg q)
  (t:TypeId) (r:Array Value) (U:w.heap[g]? =some (.cells r t (0,0))) (hi:(P.info? G).map (·.size)=some q.size)
  (I:off+q.size≤r.size) (S:q.all (·.oneCell')=true)
  (h:wpList P ops Q D (a.put o.dst undef) (w.setRow g (Ze r off q))):wpList P ops Q (o::D) a w:=
 wpList_plain J fun _ Y=>Zs G x y V g off q O X t r U hi I S (Y _ _ h)
theorem qah {P:Program}(w:World)(g off:Nat)(t q:TypeId)(o cs:Array Value)(fr:Nat×Nat)(d:TypeDesc)(J:w.heap[g]? =some (.cells o t fr))
  (O:P.underlying q=some d) (X:(match d with| .struct _| .array _ _=>true|_=>false)=true) (hi:(P.info? q).map (·.size)=some cs.size) (S: ∀j,j<cs.size→o[off+j]? =cs[j]?):
  (loadVar q ⟨g,off,none⟩).run P w= .ok (.agg cs) w:=by
 have G:(loadCells ⟨g,off,none⟩ cs.toList.length).run P w= .ok cs.toList.toArray w:=
  run_loadCells_list (P:=P) w ⟨g,off,none⟩ cs.toList (fun j v I=>by
   have U:j<cs.size:=by have:=(List.getElem?_eq_some_iff.1 I).1;simpa using this
   have D:(⟨g,off,none⟩:Addr).add j=⟨g,off+j,none⟩:=by unfold Addr.add;split<;>simp_all
   rw[D,cell_of_row w g (off+j) o t fr J,S j U];simpa using I)
 cases hq:P.info? q with
 | none=>simp[hq]at hi
 | some i=>
  have V:i.size=cs.size:=by simpa [hq] using hi
  have r:(isAgg q).run P w= .ok true w:=by
   unfold isAgg;rw[Sem.run_bind,run_underlying O w]
   cases d<;>simp_all
  simp only[Array.length_toList,Array.toArray_toList]at G;simp[loadVar,Sem.run_bind,r,sizeOf,typeInfo,hq,V,G]
theorem Qs {P:Program}{o:Oper}{a:Act}{w:World}{K:Act→World→Prop}{Q:Exit→Act→World→Prop}(r:TypeId)(x:Operand)(I:o.op= .load r x)
  (g off:Nat) (D:a.eval x= .pointer (some ⟨g,off,none⟩)) (t:TypeId) (q cs:Array Value) (fr:Nat×Nat) (d:TypeDesc) (G:w.heap[g]? =some (.cells q t fr))
  (J:P.underlying r=some d) (S:(match d with| .struct _| .array _ _=>true|_=>false)=true) (hi:(P.info? r).map (·.size)=some cs.size) (O: ∀j,j<cs.size→q[off+j]? =cs[j]?)
  (h:K (a.put o.dst (.agg cs)) w):o.wp P a w K Q:=by
 unfold Oper.wp execOp;simp only[I,D,Instr.loadAt,Instr.sureAddr,Sem.run_bind,Sem.run_pure,Result.andThen_ok,qah w g off t r q cs fr d G J S hi O];exact h
theorem Jq {P:Program}{w:World}{ops:Array Oper}{o:Oper}{l:List Oper}{a:Act}{Q:Exit→Act→World→Prop}(V:o.guard=none)(s x:Operand)(t:TypeId)
  (ho:o.op= .call { callee:= .builtin .append,args:= #[s,x],argTypes:= #[t,t] }) (base:Nat) (e:TypeId) (i:TypeInfo) (X:P.underlying t=some (.slice e)) (hi:P.info? e=some i) (I:i.size=1)
  (g n q:Nat) (xs:List Value) (hs:a.eval s= .slice (some ⟨g,0,none⟩) n q) (D:w.ownsRow base e 1 (.slice (some ⟨g,0,none⟩) n q) n xs)
  (u:Value) (m:Nat) (r:List Value) (Z:a.eval x=u) (O:SrcIs w u m r) (J:n+m≤q)
  (h: ∀w',w'.ownsRow base e 1 (.slice (some ⟨g,0,none⟩) (n+m) q) (n+m) (xs++r)→w.grownBy w' (some g)→wpList P ops Q l (a.put o.dst (.slice (some ⟨g,0,none⟩) (n+m) q)) w'):wpList P ops Q (o::l) a w:=by
 refine wpList_plain V fun K hK=>?_
 have U: ∃w',(Builtin.append_ #[t,t] o.type #[.slice (some ⟨g,0,none⟩) n q,u]).run P w= .ok (.slice (some ⟨g,0,none⟩) (n+m) q) w'∧w'.ownsRow base e 1 (.slice (some ⟨g,0,none⟩) (n+m) q) (n+m) (xs++r)∧w.grownBy w' (some g):=by
  obtain⟨h1,S,G⟩:=O;rcases G with⟨rfl,rfl⟩|⟨ad,c,rfl,G⟩
  ·obtain rfl:r=[]:=List.eq_nil_of_length_eq_zero h1;exact⟨w,by rw[Nat.add_zero];exact run_append_owned_none w base t o.type e i 1 X hi _ n xs D,by simpa using D,⟨rfl,rfl,rfl,Nat.le_refl _,fun _ _ _=>rfl⟩⟩
  ·exact run_append_fits w base t o.type e i 1 X hi I g n q xs D ad m c r (by omega) G S J
 obtain⟨w',Y,S,G⟩:=U;unfold Oper.wp execOp;simp only[ho,resolve,invoke,builtin,Sem.run_bind,Sem.run_pure,Result.andThen_ok,List.map_toArray,List.map_cons,List.map_nil,hs,Z,Y];exact hK _ _ (h w' S G)
theorem zb {w:World}{base:Nat}{e:TypeId}{g n q m:Nat}{xs:List Value}(h:w.ownsRow base e 1 (.slice (some ⟨g,0,none⟩) m q) n xs):
  ∃o,w.heap[g]? =some (.cells o e (0,0))∧o.size=q∧o.toList.take n=xs∧base≤g∧n≤q∧q≤maxLen:=by
 rcases h.2 with⟨h, -⟩|⟨U,O,o,h,r,D,J,S,G,I⟩
 ·simp at h
 ·simp only[Value.slice.injEq,Option.some.injEq,Addr.mk.injEq,and_true,true_and]at h;obtain⟨rfl, -,rfl⟩:=h;exact⟨o,D,by simpa using G,by simpa using I,r,J,S⟩
theorem qbd {P:Program}(w:World)(base:Nat)(t I e:TypeId)(i:TypeInfo)(z:Value)(bytes:Nat)(S:P.underlying t=some (.slice e))(hi:P.info? e=some i)(hz:i.zero=some z)
  (r:i.size=1) (V:i.bytes=bytes) (ae:z.cells.size=1) (v:Value) (n:Nat) (xs:List Value) (D:w.ownsRow base e 1 v n xs)
  (u:Value) (m:Nat) (o:List Value) (ac:SrcIs w u m o) (ab:n+m≤maxLen) (G:(n+m)*bytes≤140737488355328) (Y:base≤w.heap.size):
  ∃v' w',(Builtin.append_ #[t,t] I #[v,u]).run P w= .ok v' w'∧w'.ownsRow base e 1 v' (n+m) (xs++o)∧w.grownBy w' v.ownBlock∧(v'.ownBlock=v.ownBlock∨v'.ownBlock=some w.heap.size):=by
 obtain⟨h1,h2,O⟩:=ac;rcases O with⟨rfl,rfl⟩|⟨X,c,rfl,O⟩
 ·obtain rfl:o=[]:=List.eq_nil_of_length_eq_zero h1;exact⟨v,w,run_append_owned_none w base t I e i 1 S hi v n xs D,by simpa using D,⟨rfl,rfl,rfl,Nat.le_refl _,fun _ _ _=>rfl⟩,.inl rfl⟩
 ·obtain⟨v',w',U,ho,hg, -⟩:=run_append_own (P:=P) w base t I e i z 1 bytes S hi hz r V ae (by omega) v n xs D X m c o (by omega) O h2 ab G Y;refine⟨v',w',U,ho,hg,?_⟩;have af:n+m≤9223372036854775807:=by simp only[maxLen]at ab;omega
  rcases D.2 with⟨rfl,rfl⟩|⟨g,J,aa,rfl,ai,ag,al,ak,aj,ah⟩
  ·by_cases hm:m=0
   ·subst hm;obtain rfl:o=[]:=List.eq_nil_of_length_eq_zero h1;rcases ho.2 with⟨rfl, -⟩|⟨g,J,aa,rfl, -⟩
    ·exact .inl rfl
    ·exfalso
     have q:(Builtin.append_ #[t,t] I #[.slice none 0 0,.slice (some X) 0 c]).run P w= .ok (.slice none 0 0) w:=by
      simp[Builtin.append_,run_underlying S,sizeOf,typeInfo,hi,Builtin.lenOf,Builtin.firstCells,loadCells,loadCellsFrom]
     rw[U]at q;injection q with e1
     cases e1
   ·have q:=run_append_nil (P:=P) w t I e i z S hi hz X m c o (by rw[r];omega) O (by omega) (by omega) (by rw[V];have hb:=G;simp only[Nat.zero_add]at hb;omega);rw[U]at q;injection q with e1
    subst e1;exact .inr rfl
  ·by_cases Z:n+m≤J
   ·have q:=run_append_room (P:=P) w t I e i S hi g n J aa ag X m c o (by rw[r];omega) O h2 Z (by rw[r];omega);rw[U]at q;injection q with e1
    subst e1;exact .inl rfl
   ·have holds: ∀j u,xs[j]? =some u→w.cell? ((⟨g,0,none⟩:Addr).add j)=some u:=D.cells (g:=g) rfl;have q:=run_append_grow (P:=P) w t I e i z S hi hz ⟨g,0,none⟩ n J xs (by rw[r];exact D.1) holds X m c o (by rw[r];omega) O (by omega) (by omega) (by rw[V];exact growslice_fits (by omega) G);rw[U]at q;injection q with e1
    subst e1;exact .inr rfl
theorem YM {P:Program}{w:World}{o:Oper}{a:Act}{K:Act→World→Prop}{Q:Exit→Act→World→Prop}(s x:Operand)(t:TypeId)
  (Z:o.op= .call { callee:= .builtin .append,args:= #[s,x],argTypes:= #[t,t] }) (base:Nat)
  (e:TypeId) (i:TypeInfo) (z:Value) (bytes:Nat) (ht:P.underlying t=some (.slice e)) (hi:P.info? e=some i) (hz:i.zero=some z)
  (D:i.size=1) (U:i.bytes=bytes) (O:z.cells.size=1) (v:Value) (n:Nat) (xs:List Value) (hs:a.eval s=v) (J:w.ownsRow base e 1 v n xs)
  (u:Value) (m:Nat) (q:List Value) (X:a.eval x=u) (I:SrcIs w u m q) (S:n+m≤maxLen) (r:(n+m)*bytes≤140737488355328) (G:base≤w.heap.size)
  (h: ∀v' w',w'.ownsRow base e 1 v' (n+m) (xs++q)→w.grownBy w' v.ownBlock→(v'.ownBlock=v.ownBlock∨v'.ownBlock=some w.heap.size)→K (a.put o.dst v') w'):o.wp P a w K Q:=by
 obtain⟨v',w',V,Y,h3,h4⟩:=qbd (P:=P) w base t o.type e i z bytes ht hi hz D U O v n xs J u m q I S r G;unfold Oper.wp execOp;simp only[Z,resolve,invoke,builtin,Sem.run_bind,Sem.run_pure,Result.andThen_ok,List.map_toArray,List.map_cons,List.map_nil,hs,X,V];exact h v' w' Y h3 h4
end Go.Proofs.YthjoojnlnlmljaaGreat
