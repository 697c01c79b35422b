/- Lemmas. No condition. -/
import Derived.Test.YtahenngmaoellaaGreatO28
set_option linter.all false
set_option maxRecDepth 100000
set_option maxHeartbeats 0
namespace Go.Proofs.YtahenngmaoellaaGreat
open Go Go.ChangeShapes Go.WideShapes Go.ChangeAt Go.RowKit Go.Joins Go.Shelf Go.Maps
open Go.Lib (hid)
variable{P:Program}{ops:Array Oper}{o:Oper}{l:List Oper}{a:Act}{Q:Exit->Act->World->Prop}{K:Act->World->Prop}
theorem qax (w:World)(t X ty e:TypeId)(k:IntKind)(i:TypeInfo)(z:Value)(ht:P.underlying t=some (.slice e))(I:P.underlying X=some (.int k))(hi:P.info? e=some i)(hz:i.zero=some z)(D:i.size=1)(Y:z.cells= #[z])
  (g n G m:Nat) (q:Array Value) (hg:w.heap[g]? =some (.cells q e (0,0))) (o:n+m<=G) (J:n+m<=q.size) (hm:(m:Int)<9223372036854775808) (hb:(m:Int)*i.bytes<=281474976710656) (h1:z.oneCell'=true):
  (Builtin.append_ #[t,X] ty #[.slice (some ⟨g,0,none⟩) n G,.int .i64 (m:Int)]).run P w=
   .ok (.slice (some ⟨g,0,none⟩) (n+m) G) (w.setRow g (q.toList.take n++List.replicate m z++q.toList.drop (n+m)).toArray):=by
 have hw:IntKind.i64.wrap (m:Int)=(m:Int):=by rw[IntKind.wrap_i64];omega
 have aa: ¬(m:Int)<0:=by omega
 have U: ¬(m:Int)*(i.bytes:Int)>281474976710656:=by omega
 have r:=run_storeCells_at P g n e (List.replicate m z) 0 q w hg (by simpa using J) (fun v hv=>by rw[List.eq_of_mem_replicate hv];exact h1);simp only[Nat.add_zero,List.length_replicate]at r;by_cases Z:m=0
 ·subst Z;simp only[List.replicate_zero]at r⊢;have V:IntKind.i64.wrap 0=0:=rfl;simp only[Nat.add_zero]at o;simp[Builtin.append_,run_underlying ht,run_underlying I,sizeOf,typeInfo,hi,D,asInt,asIntOf,V,o,Addr.add_lit]at r⊢
  rw[r];rfl
 ·have O:(Builtin.zeroCells #[z] m).toList=List.replicate m z:=by
   simp[Builtin.zeroCells,Nat.mod_one]
   apply List.ext_getElem?
   intro j;simp only[List.getElem?_map,List.getElem?_range',List.getElem?_replicate];by_cases hj:j<m<;>simp[hj,Nat.mod_one]
  simp[Builtin.append_,run_underlying ht,run_underlying I,sizeOf,typeInfo,hi,D,asInt,asIntOf,hw,aa,U,o,Z,zeroValue,hz,Y,O,Addr.add_lit,r]
theorem Jm {w:World}(U:o.guard=none)(s x:Operand)(t O:TypeId)
  (Z:o.op= .call { callee:= .builtin .append,args:= #[s,x],argTypes:= #[t,O] }) (e:TypeId) (k:IntKind) (i:TypeInfo) (z:Value) (ht:P.underlying t=some (.slice e)) (V:P.underlying O=some (.int k)) (hi:P.info? e=some i) (hz:i.zero=some z) (G:i.size=1) (X:z.cells= #[z])
  (g n r m:Nat) (q:Array Value) (hs:a.eval s= .slice (some ⟨g,0,none⟩) n r) (hx:a.eval x= .int .i64 (m:Int)) (hg:w.heap[g]? =some (.cells q e (0,0))) (D:n+m<=r) (J:n+m<=q.size) (Y:(m:Int)<9223372036854775808) (hb:(m:Int)*i.bytes<=281474976710656) (h1:z.oneCell'=true)
  (h:wpList P ops Q l (a.put o.dst (.slice (some ⟨g,0,none⟩) (n+m) r)) (w.setRow g (q.toList.take n++List.replicate m z++q.toList.drop (n+m)).toArray)):wpList P ops Q (o::l) a w:=by
 refine wpList_plain U fun K hK=>?_
 have I:=qax (P:=P) w t O o.type e k i z ht V hi hz G X g n r m q hg D J Y hb h1;unfold Oper.wp execOp;simp only[Z,resolve,invoke,builtin,Sem.run_bind,Sem.run_pure,Result.andThen_ok,List.map_toArray,List.map_cons,List.map_nil,hs,hx,I];exact hK _ _ h
def Zr (cur:Array Value)(o:Nat)(cells:Array Value):Array Value:=(cur.toList.take o++cells.toList++cur.toList.drop (o+cells.size)).toArray
theorem JV (w:World)(g off:Nat)(t r:TypeId)(q o:Array Value)(O:w.heap[g]? =some (.cells q t (0,0)))(hi:(P.info? r).map (·.size)=some o.size)
  (I:off+o.size<=q.size) (D:o.all (·.oneCell')=true):
  (storeVar r ⟨g,off,none⟩ (.agg o)).run P w= .ok () (w.setRow g (Zr q off o)):=by
 have:=run_storeCells_at P g off t o.toList 0 q w O (by simpa using I) (fun v J=>(Array.all_eq_true_iff_forall_mem.1 D) v (by simpa using J))
 cases hq:P.info? r with
 | none=>simp[hq]at hi
 | some i=>
  have G:o.size=i.size:=by simp[hq]at hi;omega
  simp only[Nat.add_zero,Array.length_toList]at this;simp[storeVar,sizeOf,typeInfo,hq,Value.cells,G,Zr]at this⊢
  exact this
theorem ZE {w:World}(D:TypeId)(x y:Operand)(I:o.op= .store D x y)
  (g off:Nat) (q:Array Value) (V:a.eval x= .pointer (some ⟨g,off,none⟩)) (O:a.eval y= .agg q)
  (t:TypeId) (r:Array Value) (J:w.heap[g]? =some (.cells r t (0,0))) (hi:(P.info? D).map (·.size)=some q.size)
  (G:off+q.size<=r.size) (U:q.all (·.oneCell')=true)
  (h:K (a.put o.dst undef) (w.setRow g (Zr r off q))):o.wp P a w K Q:=by
 unfold Oper.wp execOp;simp only[I,V,O,Instr.storeAt,Instr.sureAddr,Sem.run_bind,Sem.run_pure,Result.andThen_ok,JV w g off t D r q J hi G U];exact h
theorem Zm {D:List Oper}{w:World}(J:o.guard=none)(G:TypeId)(x y:Operand)(O:o.op= .store G x y)
  (g off:Nat) (q:Array Value) (Z:a.eval x= .pointer (some ⟨g,off,none⟩)) (X:a.eval y= .agg q)
  (t:TypeId) (r:Array Value) (U:w.heap[g]? =some (.cells r t (0,0))) (hi:(P.info? G).map (·.size)=some q.size)
  (I:off+q.size<=r.size) (Y:q.all (·.oneCell')=true)
  (h:wpList P ops Q D (a.put o.dst undef) (w.setRow g (Zr r off q))):wpList P ops Q (o::D) a w:=
 wpList_plain J fun _ V=>ZE G x y O g off q Z X t r U hi I Y (V _ _ h)
theorem qaw (w:World)(g off:Nat)(t q:TypeId)(o cs:Array Value)(fr:Nat×Nat)(d:TypeDesc)(J:w.heap[g]? =some (.cells o t fr))
  (O:P.underlying q=some d) (Y:(match d with| .struct _| .array _ _=>true|_=>false)=true) (hi:(P.info? q).map (·.size)=some cs.size) (V: ∀j,j<cs.size->o[off+j]? =cs[j]?):
  (loadVar q ⟨g,off,none⟩).run P w= .ok (.agg cs) w:=by
 have G:(loadCells ⟨g,off,none⟩ cs.toList.length).run P w= .ok cs.toList.toArray w:=
  run_loadCells_list (P:=P) w ⟨g,off,none⟩ cs.toList (fun j v I=>by
   have X:j<cs.size:=by have:=(List.getElem?_eq_some_iff.1 I).1;simpa using this
   have r:(⟨g,off,none⟩:Addr).add j=⟨g,off+j,none⟩:=by unfold Addr.add;split<;>simp_all
   rw[r,cell_of_row w g (off+j) o t fr J,V j X];simpa using I)
 cases hq:P.info? q with
 | none=>simp[hq]at hi
 | some i=>
  have U:i.size=cs.size:=by simpa [hq] using hi
  have D:(isAgg q).run P w= .ok true w:=by
   unfold isAgg;rw[Sem.run_bind,run_underlying O w]
   cases d<;>simp_all
  simp only[Array.length_toList,Array.toArray_toList]at G;simp[loadVar,Sem.run_bind,D,sizeOf,typeInfo,hq,U,G]
theorem Qt {w:World}(r:TypeId)(x:Operand)(D:o.op= .load r x)
  (g off:Nat) (U:a.eval x= .pointer (some ⟨g,off,none⟩)) (t:TypeId) (q cs:Array Value) (fr:Nat×Nat) (d:TypeDesc) (I:w.heap[g]? =some (.cells q t fr))
  (J:P.underlying r=some d) (G:(match d with| .struct _| .array _ _=>true|_=>false)=true) (hi:(P.info? r).map (·.size)=some cs.size) (O: ∀j,j<cs.size->q[off+j]? =cs[j]?)
  (h:K (a.put o.dst (.agg cs)) w):o.wp P a w K Q:=by
 unfold Oper.wp execOp;simp only[D,U,Instr.loadAt,Instr.sureAddr,Sem.run_bind,Sem.run_pure,Result.andThen_ok,qaw w g off t r q cs fr d I J G hi O];exact h
theorem JD {w:World}(X:o.guard=none)(s x:Operand)(t:TypeId)
  (ho:o.op= .call { callee:= .builtin .append,args:= #[s,x],argTypes:= #[t,t] }) (base:Nat) (e:TypeId) (i:TypeInfo) (Y:P.underlying t=some (.slice e)) (hi:P.info? e=some i) (J:i.size=1)
  (g n q:Nat) (xs:List Value) (hs:a.eval s= .slice (some ⟨g,0,none⟩) n q) (D:w.ownsRow base e 1 (.slice (some ⟨g,0,none⟩) n q) n xs)
  (u:Value) (m:Nat) (r:List Value) (hx:a.eval x=u) (V:SrcIs w u m r) (I:n+m<=q)
  (h: ∀w',w'.ownsRow base e 1 (.slice (some ⟨g,0,none⟩) (n+m) q) (n+m) (xs++r)->w.grownBy w' (some g)->wpList P ops Q l (a.put o.dst (.slice (some ⟨g,0,none⟩) (n+m) q)) w'):wpList P ops Q (o::l) a w:=by
 refine wpList_plain X fun K hK=>?_
 have O: ∃w',(Builtin.append_ #[t,t] o.type #[.slice (some ⟨g,0,none⟩) n q,u]).run P w= .ok (.slice (some ⟨g,0,none⟩) (n+m) q) w'/\w'.ownsRow base e 1 (.slice (some ⟨g,0,none⟩) (n+m) q) (n+m) (xs++r)/\w.grownBy w' (some g):=by
  obtain⟨h1,U,G⟩:=V;rcases G with⟨rfl,rfl⟩|⟨ad,c,rfl,G⟩
  ·obtain rfl:r=[]:=List.eq_nil_of_length_eq_zero h1;exact⟨w,by rw[Nat.add_zero];exact run_append_owned_none w base t o.type e i 1 Y hi _ n xs D,by simpa using D,⟨rfl,rfl,rfl,Nat.le_refl _,fun _ _ _=>rfl⟩⟩
  ·exact run_append_fits w base t o.type e i 1 Y hi J g n q xs D ad m c r (by omega) G U I
 obtain⟨w',Z,U,G⟩:=O;unfold Oper.wp execOp;simp only[ho,resolve,invoke,builtin,Sem.run_bind,Sem.run_pure,Result.andThen_ok,List.map_toArray,List.map_cons,List.map_nil,hs,hx,Z];exact hK _ _ (h w' U G)
theorem zm {w:World}{base:Nat}{e:TypeId}{g n q m:Nat}{xs:List Value}(h:w.ownsRow base e 1 (.slice (some ⟨g,0,none⟩) m q) n xs):
  ∃o,w.heap[g]? =some (.cells o e (0,0))/\o.size=q/\o.toList.take n=xs/\base<=g/\n<=q/\q<=maxLen:=by
 rcases h.2 with⟨h, -⟩|⟨V,J,o,h,O,D,r,U,I,G⟩
 ·simp at h
 ·simp only[Value.slice.injEq,Option.some.injEq,Addr.mk.injEq,and_true,true_and]at h;obtain⟨rfl, -,rfl⟩:=h;exact⟨o,D,by simpa using I,by simpa using G,O,r,U⟩
theorem qbp (w:World)(base:Nat)(t I e:TypeId)(i:TypeInfo)(z:Value)(bytes:Nat)(U:P.underlying t=some (.slice e))(hi:P.info? e=some i)(hz:i.zero=some z)
  (r:i.size=1) (X:i.bytes=bytes) (af:z.cells.size=1) (v:Value) (n:Nat) (xs:List Value) (D:w.ownsRow base e 1 v n xs)
  (u:Value) (m:Nat) (q:List Value) (ae:SrcIs w u m q) (ac:n+m<=maxLen) (G:(n+m)*bytes<=140737488355328) (aa:base<=w.heap.size):
  ∃v' w',(Builtin.append_ #[t,t] I #[v,u]).run P w= .ok v' w'/\w'.ownsRow base e 1 v' (n+m) (xs++q)/\w.grownBy w' v.ownBlock/\(v'.ownBlock=v.ownBlock\/v'.ownBlock=some w.heap.size):=by
 obtain⟨h1,h2,O⟩:=ae;rcases O with⟨rfl,rfl⟩|⟨Y,c,rfl,O⟩
 ·obtain rfl:q=[]:=List.eq_nil_of_length_eq_zero h1;exact⟨v,w,run_append_owned_none w base t I e i 1 U hi v n xs D,by simpa using D,⟨rfl,rfl,rfl,Nat.le_refl _,fun _ _ _=>rfl⟩,.inl rfl⟩
 ·obtain⟨v',w',V,ho,hg, -⟩:=run_append_own (P:=P) w base t I e i z 1 bytes U hi hz r X af (by omega) v n xs D Y m c q (by omega) O h2 ac G aa;refine⟨v',w',V,ho,hg,?_⟩;have ah:n+m<=9223372036854775807:=by simp only[maxLen]at ac;omega
  rcases D.2 with⟨rfl,rfl⟩|⟨g,J,ab,rfl,al,ag,ak,am,aj,ai⟩
  ·by_cases hm:m=0
   ·subst hm;obtain rfl:q=[]:=List.eq_nil_of_length_eq_zero h1;rcases ho.2 with⟨rfl, -⟩|⟨g,J,ab,rfl, -⟩
    ·exact .inl rfl
    ·exfalso
     have o:(Builtin.append_ #[t,t] I #[.slice none 0 0,.slice (some Y) 0 c]).run P w= .ok (.slice none 0 0) w:=by
      simp[Builtin.append_,run_underlying U,sizeOf,typeInfo,hi,Builtin.lenOf,Builtin.firstCells,loadCells,loadCellsFrom]
     rw[V]at o;injection o with e1
     cases e1
   ·have o:=run_append_nil (P:=P) w t I e i z U hi hz Y m c q (by rw[r];omega) O (by omega) (by omega) (by rw[X];have hb:=G;simp only[Nat.zero_add]at hb;omega);rw[V]at o;injection o with e1
    subst e1;exact .inr rfl
  ·by_cases Z:n+m<=J
   ·have o:=run_append_room (P:=P) w t I e i U hi g n J ab ag Y m c q (by rw[r];omega) O h2 Z (by rw[r];omega);rw[V]at o;injection o with e1
    subst e1;exact .inl rfl
   ·have holds: ∀j u,xs[j]? =some u->w.cell? ((⟨g,0,none⟩:Addr).add j)=some u:=D.cells (g:=g) rfl;have o:=run_append_grow (P:=P) w t I e i z U hi hz ⟨g,0,none⟩ n J xs (by rw[r];exact D.1) holds Y m c q (by rw[r];omega) O (by omega) (by omega) (by rw[X];exact growslice_fits (by omega) G);rw[V]at o;injection o with e1
    subst e1;exact .inr rfl
theorem YX {w:World}(s x:Operand)(t:TypeId)
  (Z:o.op= .call { callee:= .builtin .append,args:= #[s,x],argTypes:= #[t,t] }) (base:Nat)
  (e:TypeId) (i:TypeInfo) (z:Value) (bytes:Nat) (ht:P.underlying t=some (.slice e)) (hi:P.info? e=some i) (hz:i.zero=some z)
  (D:i.size=1) (V:i.bytes=bytes) (U:z.cells.size=1) (v:Value) (n:Nat) (xs:List Value) (hs:a.eval s=v) (I:w.ownsRow base e 1 v n xs)
  (u:Value) (m:Nat) (q:List Value) (hx:a.eval x=u) (J:SrcIs w u m q) (O:n+m<=maxLen) (r:(n+m)*bytes<=140737488355328) (G:base<=w.heap.size)
  (h: ∀v' w',w'.ownsRow base e 1 v' (n+m) (xs++q)->w.grownBy w' v.ownBlock->(v'.ownBlock=v.ownBlock\/v'.ownBlock=some w.heap.size)->K (a.put o.dst v') w'):o.wp P a w K Q:=by
 obtain⟨v',w',X,h2,Y,h4⟩:=qbp (P:=P) w base t o.type e i z bytes ht hi hz D V U v n xs I u m q J O r G;unfold Oper.wp execOp;simp only[Z,resolve,invoke,builtin,Sem.run_bind,Sem.run_pure,Result.andThen_ok,List.map_toArray,List.map_cons,List.map_nil,hs,hx,X];exact h v' w' h2 Y h4
end Go.Proofs.YtahenngmaoellaaGreat
namespace Go.Proofs.YtahenngmaoellaaGreat
open Go.ChangeShapes Go.WideShapes Go.ChangeAt Go.RowKit Go.Joins Go.Shelf Go.Maps
open Go.Lib (hid)
variable{v:Value}{zs H o:List Int}{w' W:World}{n B m c p k:Nat}{a:Option Addr}{xs:List Value}{T:TypeId}{fr:Nat×Nat}
attribute [local go_sem] Oper.semAt_some
def Hold (w:World)(v:Value)(zs:List Int):Prop:=
 (∀z∈zs,0<=z/\z<=255)/\((zs=[]/\v= .slice none 0 0)\/ ∃ad cap,v= .slice (some ad) zs.length cap/\zs.length<=cap/\cap<=maxLen/\(zs=[]\/ ∃b off,ad=⟨b,off,none⟩/\Qy w b off zs))
theorem Hold.nil (w:World):Hold w (.slice none 0 0) []:=⟨(fun _ h=>by cases h),.inl ⟨rfl,rfl⟩⟩
theorem Hold.holds8 {w:World}(h:Hold w v zs):Holds8 w v zs:=by
 rcases h.2 with⟨rfl,rfl⟩|⟨r,q,rfl,D,G,o⟩
 ·exact⟨none,0,rfl,.inl rfl⟩
 ·refine⟨some r,q,rfl,?_⟩;rcases o with o|⟨b,off,rfl,o⟩
  ·exact .inl o
  ·exact .inr ⟨b,off,rfl,o⟩
theorem Hold.slice {w:World}(h:Hold w v zs): ∃a o,v= .slice a zs.length o/\zs.length<=o/\(o:Int)<=9223372036854775807:=by
 rcases h.2 with⟨rfl,rfl⟩|⟨D,o,rfl,q,r,G⟩
 ·exact⟨none,0,rfl,Nat.le_refl _,by omega⟩
 ·exact⟨some D,o,rfl,q,by unfold maxLen at r;omega⟩
theorem Hold.src {w:World}(h:Hold w v zs):SrcIs w v zs.length (zs.map qp):=by
 rcases h.2 with⟨rfl,rfl⟩|⟨G,D,rfl,I,J,q⟩
 ·exact⟨rfl,by simp,.inl ⟨rfl,rfl⟩⟩
 ·refine⟨by simp,qfu,.inr ⟨G,D,rfl,?_⟩⟩;rcases q with rfl|⟨b,off,rfl,q⟩
  ·intro j u r;simp at r
  ·intro j u r;obtain⟨o,rfl⟩:=List.getElem?_eq_some_iff.1 r;simp at o
   rw[Go.WideShapes.add_plain,q.2 j o];simp[qp,qo,Lg,o]
theorem Hold.keep {w:World}(h:Hold w v zs)(G:w.heap.size<=w'.heap.size)(I: ∀b,v.ownBlock=some b->b<w.heap.size->w'.heap[b]? =w.heap[b]?):Hold w' v zs:=by
 refine⟨h.1,?_⟩;rcases h.2 with q|⟨J,r,rfl,D,q,o⟩
 ·exact .inl q
 ·refine .inr ⟨J,r,rfl,D,q,?_⟩;rcases o with o|⟨b,off,rfl,o,O⟩
  ·exact .inl o
  ·refine .inr ⟨b,off,rfl,Nat.lt_of_lt_of_le o G,fun i hi=>?_⟩;rw[<-O i hi];exact World.cell?_of_block (I b rfl o)
theorem Hold.below {w:World}(h:Hold w v zs)(q:Below w.heap.size w w'):Hold w' v zs:=h.keep q.size fun b _ o=>q.block b o
theorem Qf {base:Nat}(h:W.ownsRow base 5 1 v n (zs.map qp))(D: ∀z∈zs,0<=z/\z<=255):Hold W v zs:=by
 have G:zs.length=n:=by have:=h.1;simpa using this
 refine⟨D,?_⟩;rcases h.2 with⟨rfl,Z⟩|⟨g,q,O,rfl,h1,V,U,J,Y,X⟩
 ·exact .inl ⟨List.eq_nil_of_length_eq_zero (by omega),rfl⟩
 ·refine .inr ⟨⟨g,0,none⟩,q,by rw[G],by omega,J,?_⟩;obtain⟨a,c,e,o⟩:=yj h;rcases o with o|⟨b,off,I,r⟩
  ·exact .inl o
  ·rw[I]at e;simp only[Value.slice.injEq,Option.some.injEq,Addr.mk.injEq,and_true]at e;obtain⟨⟨rfl,rfl⟩, -, -⟩:=e;exact .inr ⟨_,_,rfl,r⟩
theorem qdy (x y c:Nat)(q:x<18446744073709551616)(r:y<18446744073709551616)(o:c<=1)(w:World):
  (callFunc 267 #[.int .u64 x,.int .u64 y,.int .u64 c]).run Tryz.prog w=
   .ok (.value (.tuple #[.int .u64 (((x+y+c)%18446744073709551616:Nat):Int),.int .u64 (((x+y+c)/18446744073709551616:Nat):Int)])) w:=by
 rw[run_callFunc_extern Tryz.func267 (by kernel_rfl) (by kernel_rfl) (by kernel_rfl) (e:=add64Entry) (by kernel_rfl),run_add64 x y c (by omega) (by omega) (by omega) (by omega)];simp only[Result.andThen];congr 5<;>omega
theorem qel (lo n:Nat)(h:lo+n<9223372036854775808)(w:World):
  Calls Tryz.prog 266 #[.agg #[.int .u64 lo,.int .u64 0],.int .u64 n] w fun e w'=>e= .returned (.tuple #[.agg #[.int .u64 ((lo+n:Nat):Int),.int .u64 0],.bool false])/\Below w.heap.size w w':=by
 have o:=qdy lo n 0 (by omega) (by omega) (by omega);have q:=qdy 0 0 0 (by omega) (by omega) (by omega);rw[show(lo+n+0)%18446744073709551616=lo+n by omega,show(lo+n+0)/18446744073709551616=0 by omega]at o;rw[show(0+0+0)%18446744073709551616=0 by omega,show(0+0+0)/18446744073709551616=0 by omega]at q;simp only[Int.natCast_zero]at o q;obtain⟨s,r⟩:=Ex (lo+n);rw[r]at o⊢;clear r h;go_enter Tryz.func266,Tryz.ntmps266
 go_wp2_with (simp only[o,q])
 exact Bp (v:= .tuple #[.agg #[.int .u64 s,.int .u64 0],.bool false]) (by simp[results,Tryz.results266,go_sem]) rfl ⟨rfl,(Br.alloc Nl _).alloc (by simp) _⟩
theorem Z4 (big:Bool)(w:World):Calls Tryz.prog 141 #[.int .i64 (kB big)] w fun e w'=>e= .returned (.int .i64 (bB big))/\w'=w:=by
 cases big<;>
 ·simp only[kB,bB,cond];go_enter Tryz.func141,Tryz.ntmps141
  go_wp2
  go_ret
  exact⟨rfl,rfl⟩
theorem zz (big:Bool)(w:World):Calls Tryz.prog 187 #[.int .i64 (kB big)] w fun e w'=>e= .returned (.int .i64 (bB big))/\w'=w:=by
 cases big<;>
 ·simp only[kB,bB,cond];go_enter Tryz.func187,Tryz.ntmps187
  go_wp2
  go_ret
  exact⟨rfl,rfl⟩
theorem j6 (zs:List Int)(v:Value)(n:Nat)(w:World)(h:Hold w v zs)(hl:zs.length<=n)(hn:1<=n/\n<=65535):
  Calls Tryz.prog 168 #[v,.int .i64 n] w fun e w'=> ∃v',e= .returned v'/\w'.ownsRow w.heap.size 5 1 v' n ((QI n zs).map qp)/\Below w.heap.size w w':=by
 obtain⟨i0,hi,ab,O,ad⟩:=info_parts Qu;have J:=h.src;obtain⟨a,aj,rfl,ai,ak⟩:=h.slice;have am: ∀W:World,(Instr.makeSlice 24 (.int .i64 0) (.int .i64 n)).run Tryz.prog W= .ok (.slice (some ⟨W.heap.size,0,none⟩) 0 n) (W.alloc (.cells (madeCells Kc n) 5)):=by
  intro W;have:=run_make (P:=Tryz.prog) W 24 5 i0 (.int .u8 0) Tryz.underlying24 hi ab .i64 .i64 0 n (by omega) (by omega) (by rw[ad];omega) (by omega)
  simpa [O,show(Value.int .u8 0).cells= Kc from rfl] using this
 have D:(w.alloc (.cells (madeCells Kc n) 5)).ownsRow w.heap.size 5 1 (.slice (some ⟨w.heap.size,0,none⟩) 0 n) 0 []:=by
  refine⟨rfl,.inr ⟨w.heap.size,n,_,rfl,Nat.le_refl _,Wn _ _,Nat.zero_le _,by unfold maxLen;omega,by simp[madeCells],rfl⟩⟩
 have G:Below w.heap.size w (w.alloc (.cells (madeCells Kc n) 5)):=Br.alloc Nl _;have V:=J.below G;clear h J;go_enter Tryz.func168,Tryz.ntmps168
 obtain⟨m,hm⟩:=Ex (n - zs.length);have Z:(n:Int) - (zs.length:Int)=(m:Int):=by omega
 have al:m<=65535:=by omega
 have K1:=hid Z;have HM:=hid hm;have aa:zs.length+m=n:=by omega
 have o:=hid aa;obtain⟨Y,q⟩:=Ex w.heap.size;rw[q]at D G;clear Z hm aa;go_wp2_with (first|((with_reducible show wpList _ _ _ (Oper.mk (some 8) _ _ _ _ _::_) _ _);refine JD rfl _ _ _ rfl Y 5 i0 Tryz.underlying24 hi O Y 0 n [] (by rw[<-q];rfl) D _ zs.length _ rfl V (by omega) ?_;intro w2 X ae;obtain⟨r,ac,I,ag, -⟩:=zm X)|((with_reducible show wpList _ _ _ (Oper.mk (some 13) _ _ _ _ _::_) _ _);refine Jm rfl _ _ _ _ rfl 5 .i64 i0 (.int .u8 0) Tryz.underlying24 Tryz.underlying3 hi ab O rfl Y zs.length n m r rfl (by rw[<-K1.out];rfl) ac (by rw[o.out];exact Nat.le_refl _) (by rw[o.out,I];exact Nat.le_refl _) (by omega) (by rw[ad];omega) rfl ?_))
 go_ret
 rw[o.out];have hp:QI n zs=zs++List.replicate m 0:=by rw[<-HM.out];rfl
 have U:r.toList.take zs.length=zs.map qp:=by simpa using ag
 have ah:r.toList.drop n=[]:=List.drop_of_length_le (by simp[I]);refine⟨_,rfl,⟨by rw[hp];simp[o.out],.inr ⟨Y,n,_,rfl,by omega,setRow_heap _ _ _ _ _ _ ac,Nat.le_refl _,by unfold maxLen;omega,?_,?_⟩⟩,?_⟩
 ·have af:=congrArg List.length U;simp at af
  simp[I,o.out];have:=o.out;omega
 ·rw[hp,U,ah];simp only[List.append_nil,List.map_append,List.map_replicate];exact List.take_of_length_le (by simp[o.out])
 ·rw[q];exact below_setRow (G.grown ae (by simp[q]) (fun k e=>by cases e;exact Nat.le_refl _)) Nl _
theorem Holds8.mono_below {w:World}(h:Holds8 w v zs)(q:Below B w w')(o:w.heap.size<=B):Holds8 w' v zs:=qU h (q.mono o)
theorem qfb (h I:List Int)(hh:Words 64 8 h)(v:Value)(lo:Nat)(af:(lo:Int)<9223372036854775808)(r node:Bool)(w:World)(hH:Holds8 w v I)(hz: ∀z∈I,0<=z/\z<=255)(hl:I.length=128):
  Calls Tryz.prog 189 #[.agg (qj .u64 h),v,.agg #[.int .u64 lo,.int .u64 0],.bool r,.bool node] w fun e w'=>e= .returned (.agg (qj .u64 (yR true h I (lo:Nat) r node)))/\Below w.heap.size w w':=by
 obtain⟨o,q⟩:=Ex w.heap.size;have G:=yu 8 16 hz (by rw[hl]);obtain⟨M,Y⟩:=Ex (Q7 8 16 I);obtain⟨R,Z⟩:=Ex (yR true h I (lo:Nat) r node);have aa:Words 64 8 R:=by rw[<-Z];exact Q1 true hh _ _ _ _
 have ab:Zy mixBig IVb 12 h M (lo:Nat) 0 r node=R:=by rw[<-Z,<-Y];rfl
 rw[Z];rw[Y]at G;have HM:=hid Y;have ak:=hid ab;have HL:=hid hl;have an:=hid af;clear Y Z ab hl af;have O:Below o w (((w.alloc (.cells (qj .u64 h) 278)).alloc (.cells #[.int .u64 lo,.int .u64 0] 285)).alloc (.cells Kg 278)):=by rw[<-q];exact((Br.alloc Nl _).alloc (by simp) _).alloc (by simp;omega) _
 have ai:(((w.alloc (.cells (qj .u64 h) 278)).alloc (.cells #[.int .u64 lo,.int .u64 0] 285)).alloc (.cells Kg 278)).heap.size=o+1+1+1:=by simp[q]
 have h0:(((w.alloc (.cells (qj .u64 h) 278)).alloc (.cells #[.int .u64 lo,.int .u64 0] 285)).alloc (.cells Kg 278)).heap[o]? =some (.cells (qj .u64 h) 278 (0,0)):=by
  rw[Bh _ _ _ (by simp[q];omega),Bh _ _ _ (by simp[q]),<-q];exact Wn _ _
 have h1:(((w.alloc (.cells (qj .u64 h) 278)).alloc (.cells #[.int .u64 lo,.int .u64 0] 285)).alloc (.cells Kg 278)).heap[o+1]? =some (.cells #[.int .u64 lo,.int .u64 0] 285 (0,0)):=by
  rw[Bh _ _ _ (by simp[q]),show o+1=(w.alloc (.cells (qj .u64 h) 278)).heap.size by simp[q]];exact Wn _ _
 have h2:(((w.alloc (.cells (qj .u64 h) 278)).alloc (.cells #[.int .u64 lo,.int .u64 0] 285)).alloc (.cells Kg 278)).heap[o+1+1]? =some (.cells Kg 278 (0,0)):=by
  rw[show o+1+1=((w.alloc (.cells (qj .u64 h) 278)).alloc (.cells #[.int .u64 lo,.int .u64 0] 285)).heap.size by simp[q]];exact Wn _ _
 have HH:=hid (hH.mono_below O (by omega));clear hH;go_enter Tryz.func189,Tryz.ntmps189
 go_wp2_with fail
 generalize (((w.alloc (.cells (qj .u64 h) 278)).alloc (.cells #[.int .u64 lo,.int .u64 0] 285)).alloc (.cells Kg 278))=w0 at*;refine(qfO I v _ HH.out hz HL.out).mono ?_;rintro e w1 ⟨rfl,D⟩;rw[HM.out];have al:=D.size;have k0:=qf h0 D;have k1:=qf h1 D;have k2:=qf h2 D;have ad:Below o w w1:=O.trans (D.mono (by omega));have am:o+3<=w1.heap.size:=by omega
 clear h0 h1 h2 D O HH ai al;have K0:=hid k0;have K1:=hid k1;have K2:=hid k2;have ag:=hid hh;clear k0 k1 k2 hh hz;go_upto_region 2 with((with_reducible show wpList _ _ _ (Oper.mk none (Op.store 257 _ _) _ _ _ _::_) _ _);refine wpList_store_row rfl 257 _ _ rfl w1.heap.size (qj .u64 M) rfl rfl 257 _ (Wn _ _) (by rw[qg,G.1];kernel_rfl) (by rw[qg,G.1];rfl) qA ?_)
 refine qm ?_;intro W J;obtain⟨bv,V⟩:=Ex w1.heap.size;have g0:W.heap[o]? =some (.cells (qj .u64 h) 278 (0,0)):=by rw[J];exact(setRow_other (w1.alloc _) _ _ _ (by omega)).trans ((Bh _ _ _ (by omega)).trans K0.out)
 have g1:W.heap[o+1]? =some (.cells #[.int .u64 lo,.int .u64 0] 285 (0,0)):=by rw[J];exact(setRow_other (w1.alloc _) _ _ _ (by omega)).trans ((Bh _ _ _ (by omega)).trans K1.out)
 have g2:W.heap[o+1+1]? =some (.cells Kg 278 (0,0)):=by rw[J];exact(setRow_other (w1.alloc _) _ _ _ (by omega)).trans ((Bh _ _ _ (by omega)).trans K2.out)
 have g3:W.heap[bv]? =some (.cells (qj .u64 M) 257 (0,0)):=by rw[J,<-V];exact setRow_heap _ _ _ _ _ _ (Wn _ _)
 have ac:Below o w W:=by rw[J];exact below_setRow (ad.alloc (by omega) _) (by omega) _
 rw[V];clear J ad V am K0 K1 K2;have U:=hid aa;have ae:=hid G;clear aa G;have aj:=qd g1 0;go_wp2_with (first|((with_reducible show wpList _ _ _ (Oper.mk (some 18) _ _ _ _ _::_) _ _);refine wpList_load_row rfl 278 _ rfl o rfl _ _ _ _ g0 Tryz.underlying278 rfl (by rw[qg,ag.out.1];kernel_rfl) ?_)|((with_reducible show wpList _ _ _ (Oper.mk (some 19) _ _ _ _ _::_) _ _);refine wpList_load_row rfl 257 _ rfl bv rfl _ _ _ _ g3 Tryz.underlying257 rfl (by rw[qg,ae.out.1];kernel_rfl) ?_)|((with_reducible show wpList _ _ _ (Oper.mk (some 20) _ _ _ _ _::_) _ _);refine wpList_load_row rfl 285 _ rfl (o+1) rfl _ _ _ _ g1 Tryz.underlying285 rfl (by kernel_rfl) ?_))
 refine(qka h M ag.out ae.out (lo:Nat) 0 r node _).mono ?_;rintro e w2 ⟨rfl,X⟩;rw[ak.out];have j2:=qf g2 X;have ah:Below o w w2:=ac.trans (X.mono (by have:=(Ai g2).1;omega));clear g0 g1 g2 g3 ac X aj;go_wp2_with ((with_reducible show wpList _ _ _ (Oper.mk none (Op.store 278 _ _) _ _ _ _::_) _ _);refine wpList_store_row rfl 278 _ _ rfl (o+1+1) (qj .u64 R) rfl rfl 278 _ j2 (by rw[qg,U.out.1];kernel_rfl) (by rw[qg,U.out.1];rfl) qA ?_)
 exact Bp (results_cell_row rfl _ _ (o+1+1) 278 _ _ _ rfl (setRow_heap _ _ _ _ _ _ j2) Tryz.underlying278 rfl (by rw[qg,U.out.1];kernel_rfl)) rfl ⟨rfl,by rw[q];exact below_setRow ah (by omega) _⟩
theorem qdl (h I:List Int)(hh:Words 32 8 h)(v:Value)(lo:Nat)(af:(lo:Int)<9223372036854775808)(r node:Bool)(w:World)(hH:Holds8 w v I)(hz: ∀z∈I,0<=z/\z<=255)(hl:I.length=64):
  Calls Tryz.prog 192 #[.agg (qj .u32 h),v,.agg #[.int .u64 lo,.int .u64 0],.bool r,.bool node] w fun e w'=>e= .returned (.agg (qj .u32 (yR false h I (lo:Nat) r node)))/\Below w.heap.size w w':=by
 obtain⟨o,q⟩:=Ex w.heap.size;have G:=yu 4 16 hz (by rw[hl]);obtain⟨M,Y⟩:=Ex (Q7 4 16 I);obtain⟨R,Z⟩:=Ex (yR false h I (lo:Nat) r node);have aa:Words 32 8 R:=by rw[<-Z];exact Q1 false hh _ _ _ _
 have ab:Zy mixSmall IVs 10 h M ((lo:Nat)%4294967296) ((lo:Nat)/4294967296) r node=R:=by rw[<-Z,<-Y];rfl
 rw[Z];rw[Y]at G;have HM:=hid Y;have ak:=hid ab;have HL:=hid hl;have am:=hid af;clear Y Z ab hl af;have O:Below o w (((w.alloc (.cells (qj .u32 h) 288)).alloc (.cells #[.int .u64 lo,.int .u64 0] 285)).alloc (.cells Kf 288)):=by rw[<-q];exact((Br.alloc Nl _).alloc (by simp) _).alloc (by simp;omega) _
 have ai:(((w.alloc (.cells (qj .u32 h) 288)).alloc (.cells #[.int .u64 lo,.int .u64 0] 285)).alloc (.cells Kf 288)).heap.size=o+1+1+1:=by simp[q]
 have h0:(((w.alloc (.cells (qj .u32 h) 288)).alloc (.cells #[.int .u64 lo,.int .u64 0] 285)).alloc (.cells Kf 288)).heap[o]? =some (.cells (qj .u32 h) 288 (0,0)):=by
  rw[Bh _ _ _ (by simp[q];omega),Bh _ _ _ (by simp[q]),<-q];exact Wn _ _
 have h1:(((w.alloc (.cells (qj .u32 h) 288)).alloc (.cells #[.int .u64 lo,.int .u64 0] 285)).alloc (.cells Kf 288)).heap[o+1]? =some (.cells #[.int .u64 lo,.int .u64 0] 285 (0,0)):=by
  rw[Bh _ _ _ (by simp[q]),show o+1=(w.alloc (.cells (qj .u32 h) 288)).heap.size by simp[q]];exact Wn _ _
 have h2:(((w.alloc (.cells (qj .u32 h) 288)).alloc (.cells #[.int .u64 lo,.int .u64 0] 285)).alloc (.cells Kf 288)).heap[o+1+1]? =some (.cells Kf 288 (0,0)):=by
  rw[show o+1+1=((w.alloc (.cells (qj .u32 h) 288)).alloc (.cells #[.int .u64 lo,.int .u64 0] 285)).heap.size by simp[q]];exact Wn _ _
 have HH:=hid (hH.mono_below O (by omega));clear hH;go_enter Tryz.func192,Tryz.ntmps192
 go_wp2_with fail
 generalize (((w.alloc (.cells (qj .u32 h) 288)).alloc (.cells #[.int .u64 lo,.int .u64 0] 285)).alloc (.cells Kf 288))=w0 at*;refine(qfP I v _ HH.out hz HL.out).mono ?_;rintro e w1 ⟨rfl,D⟩;rw[HM.out];have al:=D.size;have k0:=qf h0 D;have k1:=qf h1 D;have k2:=qf h2 D;have ad:Below o w w1:=O.trans (D.mono (by omega));have an:o+3<=w1.heap.size:=by omega
 clear h0 h1 h2 D O HH ai al;have K0:=hid k0;have K1:=hid k1;have K2:=hid k2;have ag:=hid hh;clear k0 k1 k2 hh hz;go_upto_region 2 with((with_reducible show wpList _ _ _ (Oper.mk none (Op.store 302 _ _) _ _ _ _::_) _ _);refine wpList_store_row rfl 302 _ _ rfl w1.heap.size (qj .u32 M) rfl rfl 302 _ (Wn _ _) (by rw[qg,G.1];kernel_rfl) (by rw[qg,G.1];rfl) qA ?_)
 refine qm ?_;intro W J;obtain⟨bv,V⟩:=Ex w1.heap.size;have g0:W.heap[o]? =some (.cells (qj .u32 h) 288 (0,0)):=by rw[J];exact(setRow_other (w1.alloc _) _ _ _ (by omega)).trans ((Bh _ _ _ (by omega)).trans K0.out)
 have g1:W.heap[o+1]? =some (.cells #[.int .u64 lo,.int .u64 0] 285 (0,0)):=by rw[J];exact(setRow_other (w1.alloc _) _ _ _ (by omega)).trans ((Bh _ _ _ (by omega)).trans K1.out)
 have g2:W.heap[o+1+1]? =some (.cells Kf 288 (0,0)):=by rw[J];exact(setRow_other (w1.alloc _) _ _ _ (by omega)).trans ((Bh _ _ _ (by omega)).trans K2.out)
 have g3:W.heap[bv]? =some (.cells (qj .u32 M) 302 (0,0)):=by rw[J,<-V];exact setRow_heap _ _ _ _ _ _ (Wn _ _)
 have ac:Below o w W:=by rw[J];exact below_setRow (ad.alloc (by omega) _) (by omega) _
 rw[V];clear J ad V an K0 K1 K2;have U:=hid aa;have ae:=hid G;clear aa G;have aj:=qd g1 0;go_wp2_with (first|((with_reducible show wpList _ _ _ (Oper.mk (some 18) _ _ _ _ _::_) _ _);refine wpList_load_row rfl 288 _ rfl o rfl _ _ _ _ g0 Tryz.underlying288 rfl (by rw[qg,ag.out.1];kernel_rfl) ?_)|((with_reducible show wpList _ _ _ (Oper.mk (some 19) _ _ _ _ _::_) _ _);refine wpList_load_row rfl 302 _ rfl bv rfl _ _ _ _ g3 Tryz.underlying302 rfl (by rw[qg,ae.out.1];kernel_rfl) ?_))
 refine(qkb h M ag.out ae.out (lo:Nat) (by omega) (by have:=am.out;omega) r node _).mono ?_;rintro e w2 ⟨rfl,X⟩;rw[ak.out];have j2:=qf g2 X;have ah:Below o w w2:=ac.trans (X.mono (by have:=(Ai g2).1;omega));clear g0 g1 g2 g3 ac X aj;go_wp2_with ((with_reducible show wpList _ _ _ (Oper.mk none (Op.store 288 _ _) _ _ _ _::_) _ _);refine wpList_store_row rfl 288 _ _ rfl (o+1+1) (qj .u32 R) rfl rfl 288 _ j2 (by rw[qg,U.out.1];kernel_rfl) (by rw[qg,U.out.1];rfl) qA ?_)
 exact Bp (results_cell_row rfl _ _ (o+1+1) 288 _ _ _ rfl (setRow_heap _ _ _ _ _ _ j2) Tryz.underlying288 rfl (by rw[qg,U.out.1];kernel_rfl)) rfl ⟨rfl,by rw[q];exact below_setRow ah (by omega) _⟩
def Zg (h:List Int)(lo:Int)(hv:Value):Array Value:= #[.int .u64 (wd h 0),.int .u64 (wd h 1),.int .u64 (wd h 2),.int .u64 (wd h 3),.int .u64 (wd h 4),.int .u64 (wd h 5),.int .u64 (wd h 6),.int .u64 (wd h 7),.int .u64 lo,.int .u64 0,hv,.int .i64 128,.func (.func 189) #[] #[],.func (.func 190) #[] #[]]
def Zf (h:List Int)(lo:Int)(hv:Value):Array Value:= #[.int .u32 (wd h 0),.int .u32 (wd h 1),.int .u32 (wd h 2),.int .u32 (wd h 3),.int .u32 (wd h 4),.int .u32 (wd h 5),.int .u32 (wd h 6),.int .u32 (wd h 7),.int .u64 lo,.int .u64 0,hv,.int .i64 64,.func (.func 192) #[] #[],.func (.func 193) #[] #[]]
theorem qgV (o:List Int)(v:Value)(w:World)(hH:Holds8 w v o)(hz: ∀z∈o,0<=z/\z<=255)(hl:o.length=64):
  Calls Tryz.prog 167 #[.int .i64 1,v] w fun e w'=> ∃p,e= .returned (.iface 281 (.pointer (some ⟨p,0,none⟩)))/\w.heap.size<=p/\w'.heap[p]? =some (.cells (Zg (h0Z true o) 0 (.slice none 0 0)) 287 (0,0))/\Below w.heap.size w w':=by
 obtain⟨H,q⟩:=Ex (h0Z true o);have G:Words 64 8 H:=by rw[<-q];exact Q4 true o
 have U:yL .u64 IVb 8 o=H:=by rw[<-q];rfl
 rw[q];have Z:=hid U;clear q U;have V:=hid G;clear G;go_enter Tryz.func167,Tryz.ntmps167
 go_wp2_with fail
 refine(qfV o v _ hH hz hl).mono ?_;rintro e w1 ⟨rfl,D⟩;rw[Z.out];clear hH hz hl;go_upto_region 3 with((with_reducible show wpList _ _ _ (Oper.mk none (Op.store 278 _ _) _ _ _ _::_) _ _);refine wpList_store_row rfl 278 _ _ rfl w1.heap.size (qj .u64 H) rfl rfl 278 _ (Wn _ _) (by rw[qg,V.out.1];kernel_rfl) (by rw[qg,V.out.1];rfl) qA ?_)
 refine qm ?_;intro W X;obtain⟨Y,I⟩:=Ex w1.heap.size;have O:=D.size;have g3:W.heap[Y]? =some (.cells (qj .u64 H) 278 (0,0)):=by rw[X,<-I];exact setRow_heap _ _ _ _ _ _ (Wn _ _)
 have r:Below w.heap.size w W:=by rw[X];exact below_setRow (D.alloc O _) O _
 rw[I];clear X;rw[ZC V.out]at g3;have J:=r.size;go_wp2_with (first|((with_reducible show wpList _ _ _ (Oper.mk (some 16) _ _ _ _ _::_) _ _);refine wpList_load_row rfl 278 _ rfl Y rfl _ _ _ _ g3 Tryz.underlying278 rfl (by kernel_rfl) ?_))
 go_ret
 exact⟨_,rfl,J,Wn _ _,r.alloc J _⟩
theorem qfE (o:List Int)(v:Value)(w:World)(hH:Holds8 w v o)(hz: ∀z∈o,0<=z/\z<=255)(hl:o.length=32):
  Calls Tryz.prog 167 #[.int .i64 2,v] w fun e w'=> ∃p,e= .returned (.iface 291 (.pointer (some ⟨p,0,none⟩)))/\w.heap.size<=p/\w'.heap[p]? =some (.cells (Zf (h0Z false o) 0 (.slice none 0 0)) 295 (0,0))/\Below w.heap.size w w':=by
 obtain⟨H,q⟩:=Ex (h0Z false o);have G:Words 32 8 H:=by rw[<-q];exact Q4 false o
 have U:yL .u32 IVs 4 o=H:=by rw[<-q];rfl
 rw[q];have Z:=hid U;clear q U;have V:=hid G;clear G;go_enter Tryz.func167,Tryz.ntmps167
 go_wp2_with fail
 refine(qfW o v _ hH hz hl).mono ?_;rintro e w1 ⟨rfl,D⟩;rw[Z.out];clear hH hz hl;go_upto_region 5 with((with_reducible show wpList _ _ _ (Oper.mk none (Op.store 288 _ _) _ _ _ _::_) _ _);refine wpList_store_row rfl 288 _ _ rfl w1.heap.size (qj .u32 H) rfl rfl 288 _ (Wn _ _) (by rw[qg,V.out.1];kernel_rfl) (by rw[qg,V.out.1];rfl) qA ?_)
 refine qm ?_;intro W X;obtain⟨Y,I⟩:=Ex w1.heap.size;have O:=D.size;have g3:W.heap[Y]? =some (.cells (qj .u32 H) 288 (0,0)):=by rw[X,<-I];exact setRow_heap _ _ _ _ _ _ (Wn _ _)
 have r:Below w.heap.size w W:=by rw[X];exact below_setRow (D.alloc O _) O _
 rw[I];clear X;rw[ZC V.out]at g3;have J:=r.size;go_wp2_with (first|((with_reducible show wpList _ _ _ (Oper.mk (some 25) _ _ _ _ _::_) _ _);refine wpList_load_row rfl 288 _ rfl Y rfl _ _ _ _ g3 Tryz.underlying288 rfl (by kernel_rfl) ?_))
 go_ret
 exact⟨_,rfl,J,Wn _ _,r.alloc J _⟩
structure Spare (S:Nat->Prop)(w w':World):Prop where
 os:w'.os=w.os
 tape:w'.tape=w.tape
 output:w'.output=w.output
 size:w.heap.size<=w'.heap.size
 block: ∀k,k<w.heap.size->S k->w'.heap[k]? =w.heap[k]?
namespace Spare
variable {S T:Nat->Prop} {w w' w'':World}
theorem refl (S:Nat->Prop)(w:World):Spare S w w:=⟨rfl,rfl,rfl,Nat.le_refl _,fun _ _ _=>rfl⟩
theorem trans (h:Spare S w w')(k:Spare T w' w'')(r: ∀b,b<w.heap.size->S b->T b):Spare S w w'':=
 ⟨k.os.trans h.os,k.tape.trans h.tape,k.output.trans h.output,Nat.le_trans h.size k.size,fun b o q=>(k.block b (Nat.lt_of_lt_of_le o h.size) (r b o q)).trans (h.block b o q)⟩
theorem of_below (S:Nat->Prop)(h:Below w.heap.size w w'):Spare S w w':=⟨h.os,h.tape,h.output,h.size,fun k o _=>h.block k o⟩
theorem below (h:Spare S w w')(r:B<=w.heap.size)(o: ∀k,k<B->S k):Below B w w':=⟨h.os,h.tape,h.output,h.size,fun k q=>h.block k (by omega) (o k q)⟩
theorem of_but {b:Nat}(h:But b w w'):Spare (fun k=>k≠b) w w':=⟨h.os,h.tape,h.output,h.size,fun k q o=>h.block k q o⟩
theorem of_grown {b:Option Nat}(h:w.grownBy w' b):Spare (fun k=>b≠some k) w w':=⟨h.os,h.tape,h.output,h.size,fun k q o=>h.block k q (fun e=>o e.symm)⟩
end Spare
def Q6 (big:Bool)(w:World)(p:Nat)(hv:Value)(h0 msg:List Int):Prop:=
 w.heap[p]? =some (.cells (cond big Zg Zf (stZ big h0 msg (nbk (bB big) msg.length)) ((bB big*nbk (bB big) msg.length:Nat):Int) hv) (cond big 287 295) (0,0))/\
 w.ownsRow 0 5 1 hv (yq (bB big) msg).length ((yq (bB big) msg).map qp)
def Zj (p:Nat)(hv:Value):Nat->Prop:=fun k=>k≠p/\hv.ownBlock≠some k
theorem qef (H:List Int)(lo:Int)(o:Value): ∀j,j<2->(Zg H lo o)[8+j]? =(#[.int .u64 lo,.int .u64 0]:Array Value)[j]? :=by
 intro j q;rcases(show j=0\/j=1 by omega)with rfl|rfl<;>rfl
theorem qee (H:List Int)(lo:Int)(o:Value): ∀j,j<2->(Zf H lo o)[8+j]? =(#[.int .u64 lo,.int .u64 0]:Array Value)[j]? :=by
 intro j q;rcases(show j=0\/j=1 by omega)with rfl|rfl<;>rfl
theorem qi9 (q:Words 64 8 H)(lo:Int)(r:Value): ∀j,j<(qj .u64 H).size->(Zg H lo r)[0+j]? =(qj .u64 H)[j]? :=by
 rw[ZC q];intro j o;have o:j<8:=o;rcases(show j=0\/j=1\/j=2\/j=3\/j=4\/j=5\/j=6\/j=7 by omega)with rfl|rfl|rfl|rfl|rfl|rfl|rfl|rfl<;>rfl
theorem qi8 (q:Words 32 8 H)(lo:Int)(r:Value): ∀j,j<(qj .u32 H).size->(Zf H lo r)[0+j]? =(qj .u32 H)[j]? :=by
 rw[ZC q];intro j o;have o:j<8:=o;rcases(show j=0\/j=1\/j=2\/j=3\/j=4\/j=5\/j=6\/j=7 by omega)with rfl|rfl|rfl|rfl|rfl|rfl|rfl|rfl<;>rfl
theorem qgG (H:List Int)(lo o:Int)(q:Value):Zr (Zg H lo q) 8 #[.int .u64 o,.int .u64 0]=Zg H o q:=rfl
theorem qgF (H:List Int)(lo o:Int)(q:Value):Zr (Zf H lo q) 8 #[.int .u64 o,.int .u64 0]=Zf H o q:=rfl
theorem qh2 (h:Words 64 8 o)(H:List Int)(lo:Int)(q:Value):Zr (Zg H lo q) 0 (qj .u64 o)=Zg o lo q:=by rw[ZC h];rfl
theorem qh1 (h:Words 32 8 o)(H:List Int)(lo:Int)(q:Value):Zr (Zf H lo q) 0 (qj .u32 o)=Zf o lo q:=by rw[ZC h];rfl
def qkh (big:Bool)(w0:World)(S:Nat->Prop)(p:Nat)(hv0:Value)(h0 msg:List Int)(W:World):Prop:=
 ∃H lo hl hv,W.heap[p]? =some (.cells (cond big Zg Zf H ((lo:Nat):Int) hv) (cond big 287 295) (0,0))/\W.ownsRow 0 5 1 hv hl.length (hl.map qp)/\hl.length<bB big/\qgY big h0 msg H lo hl/\
  (hv.ownBlock=hv0.ownBlock\/ ∀g,hv.ownBlock=some g->w0.heap.size<=g)/\Spare S w0 W
theorem But.of_setRow (w:World)(p:Nat)(cs:Array Value):But p w (w.setRow p cs):=⟨rfl,rfl,rfl,by simp,fun k _ o=>setRow_other w p k cs o⟩
def qfd:Value->Nat
 | .slice _ n _=>n
 | _=>0
theorem yJ {e:TypeId}(h:W.ownsRow B e 1 (.slice a m c) n xs):m=n:=by
 rcases h.2 with⟨o,D⟩|⟨g,r,q,o, -⟩
 ·simp only[Value.slice.injEq]at o;omega
 ·simp only[Value.slice.injEq]at o;exact o.2.1
theorem YI {W':World}{c:Array Value}(h:W.ownsRow 0 5 1 v n xs)(O:But p W W')(G:W.heap[p]? =some (.cells c T fr))(J:T≠5):W'.ownsRow 0 5 1 v n xs:=by
 refine⟨h.1,?_⟩;rcases h.2 with o|⟨g,r,q,e,U,o,D⟩
 ·exact .inl o
 ·refine .inr ⟨g,r,q,e,U,?_,D⟩;have I:g<W.heap.size:=(Ai o).1;rw[O.block g I ?_];exact o;rintro rfl
  rw[G]at o;simp only[Option.some.injEq,Obj.cells.injEq]at o;exact J o.2.1
theorem jE (h:W.ownsRow 0 5 1 (.slice a m c) n xs)(o:n≠0): ∃g,a=some ⟨g,0,none⟩:=by
 rcases h.2 with⟨-,q⟩|⟨g,D,r,e, -⟩
 ·exact absurd q o
 ·simp only[Value.slice.injEq]at e;exact⟨g,e.1⟩
theorem qe3 {g:Nat}(h:W.ownsRow 0 5 1 (.slice (some ⟨g,0,none⟩) m c) n xs):W.ownsRow 0 5 1 (.slice (some ⟨g,0,none⟩) 0 c) 0 []:=by
 refine⟨rfl,?_⟩;rcases h.2 with⟨o, -⟩|⟨J,I,q,e,D,o,O,G,r,U⟩
 ·simp at o
 ·simp only[Value.slice.injEq,Option.some.injEq,Addr.mk.injEq,and_true,true_and]at e;obtain⟨rfl, -,rfl⟩:=e;exact .inr ⟨g,c,q,rfl,D,o,Nat.zero_le _,G,r,rfl⟩
theorem qd3 {c:Array Value}(h:W.ownsRow 0 5 1 v n xs)(q:W.heap[p]? =some (.cells c T fr))(r:T≠5):some p≠v.ownBlock:=by
 rcases h.2 with⟨rfl, -⟩|⟨g,G,D,rfl,J,o,I⟩
 ·intro e;cases e
 ·intro e;simp only[Value.ownBlock,Option.some.injEq]at e;subst e;rw[q]at o;simp only[Option.some.injEq,Obj.cells.injEq]at o;exact r o.2.1
theorem qdq {w:World}(h:Hold w (.slice a n c) zs)(q:k<=zs.length):Hold w (.slice a k c) (zs.take k):=by
 refine⟨fun z D=>h.1 z (List.mem_of_mem_take D),?_⟩;rcases h.2 with⟨rfl,e⟩|⟨I,O,e,U,G,o⟩
 ·simp only[Value.slice.injEq]at e;obtain⟨rfl, -,rfl⟩:=e;obtain rfl:k=0:=by simpa using q
  exact .inl ⟨rfl,rfl⟩
 ·simp only[Value.slice.injEq]at e;obtain⟨rfl, -,rfl⟩:=e;refine .inr ⟨I,c,by simp[List.length_take,Nat.min_eq_left q],by simp;omega,G,?_⟩;rcases o with o|⟨b,off,rfl,o,J⟩
  ·exact .inl (by rw[o];simp)
  ·refine .inr ⟨b,off,rfl,o,fun i hi=>?_⟩;have r:i<k:=by simp at hi;omega
   rw[J i (by omega)];simp[qo,Lg,r]
theorem Zd {w O I:World}{b:Value}{X:List Int}{S:Nat->Prop}(h:Hold I b zs)(hv:Hold w v X)(aa:b.ownBlock=v.ownBlock)(h1:Spare S w I)(Y:Spare S w O)(Z: ∀k,v.ownBlock=some k->S k)(G:X≠[]):Hold O b zs:=by
 refine⟨h.1,?_⟩;rcases h.2 with h2|⟨ad,U,rfl,h3,h4,D⟩
 ·exact .inl h2
 ·refine .inr ⟨ad,U,rfl,h3,h4,?_⟩;rcases D with D|⟨V,off,rfl,D,h7⟩
  ·exact .inl D
  ·have J:v.ownBlock=some V:=aa.symm;rcases hv.2 with⟨q, -⟩|⟨ac,ab,rfl, -, -,q⟩
   ·exact absurd q G
   obtain⟨o,o8,rfl,q, -⟩:=q.resolve_left G;obtain rfl:o=V:=by simpa [Value.ownBlock] using J
   have r:o<w.heap.size:=q;refine .inr ⟨o,off,rfl,Nat.lt_of_lt_of_le r Y.size,fun i hi=>?_⟩;have e1:O.heap[o]? =I.heap[o]? :=(Y.block o r (Z o J)).trans (h1.block o r (Z o J)).symm;rw[<-h7 i hi];exact World.cell?_of_block e1
theorem qaJ {w:World}(h:Hold w (.slice a n c) zs)(o:zs≠[]): ∃b off,a=some ⟨b,off,none⟩:=by
 rcases h.2 with⟨r, -⟩|⟨G,D,e, -, -,q⟩
 ·exact absurd r o
 ·obtain⟨b,off,rfl, -⟩:=q.resolve_left o;simp only[Value.slice.injEq]at e;exact⟨b,off,e.1⟩
theorem Jc {w:World}{r:Option Addr}{G o:Nat}(h:Hold w (.slice a n c) zs)(hk:k<=zs.length)(D:G=zs.length - k)(hc:o=c - k)(b off:Nat)(V:a=some ⟨b,off,none⟩)(I:r=some ⟨b,off+k,none⟩\/r=a/\c=k):Hold w (.slice r G o) (zs.drop k):=by
 subst V;refine⟨fun z O=>h.1 z (List.mem_of_mem_drop O),?_⟩;rcases h.2 with⟨rfl,e⟩|⟨ad,Y,e,h1,h2,q⟩
 ·simp at e
 ·simp only[Value.slice.injEq,Option.some.injEq]at e;obtain⟨rfl, -,rfl⟩:=e;rcases I with rfl|⟨rfl,Z⟩
  ·refine .inr ⟨⟨b,off+k,none⟩,o,by simp[D],by simp;omega,by omega,?_⟩;rcases q with rfl|⟨b',U,e,q,X⟩
   ·exact .inl (by simp)
   ·simp only[Addr.mk.injEq,and_true]at e;obtain⟨rfl,rfl⟩:=e;refine .inr ⟨b,off+k,rfl,q,fun i hi=>?_⟩;have J:k+i<zs.length:=by simp at hi;omega
    have:=X (k+i) J
    rw[<-Nat.add_assoc]at this;rw[this];simp[qo,Lg]
  ·refine .inr ⟨⟨b,off,none⟩,o,by simp[D],by simp;omega,by omega,.inl ?_⟩;exact List.drop_of_length_le (by omega)
theorem qbE (h0 ad J:List Int)(hh:Words 64 8 h0)(hm: ∀z∈ad,0<=z/\z<=255)(p:Nat)(hv v:Value)(w:World)(hE:Q6 true w p hv h0 ad)(hH:Hold w v J)(hF:J≠[]-> ∀b,v.ownBlock=some b->Zj p hv b)(cT:(ad.length:Int)+J.length<=140737488355328):
  Calls Tryz.prog 265 #[.pointer (some ⟨p,0,none⟩),v] w fun e w'=>e= .returned (.tuple #[])/\(∃aj,Q6 true w' p aj h0 (ad++J)/\(aj.ownBlock=hv.ownBlock\/ ∀g,aj.ownBlock=some g->w.heap.size<=g))/\Spare (Zj p hv) w w':=by
 obtain⟨i0,hi,cQ,cP,cD⟩:=info_parts Qu;have cY:p<w.heap.size:=(Ai hE.1).1;have cJ:=hid hh;have cv:=hid hm;have HE:=hid hE;have HH:=hid hH;have HF:=hid hF;have b5:=hH.1;have HZ:=hid b5;clear hh hm hE hH hF b5;obtain⟨S,hS⟩:=Ex (Zj p hv);have HS:=hid hS;rw[hS];clear hS;go_enter Tryz.func265,Tryz.ntmps265
 go_wp2_with fail
 go_loopw [1] (fun b wr=> ∃j:Nat,j<=J.length/\Hold wr b (J.drop j)/\b.ownBlock=v.ownBlock/\(∃aj,Q6 true wr p aj h0 (ad++J.take j)/\(aj.ownBlock=hv.ownBlock\/ ∀g,aj.ownBlock=some g->w.heap.size<=g))/\Spare S w wr) (fun b _=>qfd b)
 case atStart=>exact⟨0,Nat.zero_le _,by simpa using HH.out,rfl,⟨hv,by simpa using HE.out,.inl rfl⟩,Spare.refl _ _⟩
 case round=>
  obtain⟨j,hj,a9,bI,⟨cK,bK,aP⟩,cc⟩:=hrel;have cE:=hid a9;have an:=hid cc;have bm:=hid bK;have aO:=hid bI;have ai:=hid aP;obtain⟨ab,cb,rfl,cg,cW⟩:=a9.slice;clear a9 cc bK bI aP;by_cases af:j<J.length
  case neg=>
   obtain rfl:j=J.length:=by omega
   have aA:(J.drop J.length).length=0:=by simp
   rw[aA]at*;go_wp2
   go_end0
   have h1:=bm.out;rw[List.take_length]at h1;exact⟨rfl,⟨cK,h1,ai.out⟩,an.out⟩
  have bA:(J.drop j).length=J.length - j:=by simp
  have cN:0<(J.drop j).length:=by omega
  have q:((J.drop j).length:Int)<=140737488355328:=by omega
  obtain⟨m1,aF⟩:=Ex (ad++J.take j);have c8:m1.length<=140737488355328:=by rw[<-aF];simp;omega
  have bi: ∀z∈m1,0<=z/\z<=255:=by
   rw[<-aF];intro z hz;rcases List.mem_append.1 hz with hz|hz
   ·exact cv.out z hz
   ·exact HZ.out z (List.mem_of_mem_take hz)
  have c7:=hid bi;have ct:=hid bA;have bS:=bm.out;rw[aF]at bS;have cF:=hid aF;obtain⟨N,hN⟩:=Ex ((J.drop j).length);rw[hN]at cN q cg⊢;have HN:=hid hN;have a6:=qac (zb true) m1;have bZ:=qdi true h0 m1;have bo:=qdj true h0 m1;have aY:=jI (zb true) m1;have bE:=zV (n:=bB true) bi;have ca:=Yr true cJ.out m1 (nbk (bB true) m1.length);obtain⟨Z,av⟩:=bS;simp only[cond]at Z;generalize stZ true h0 m1 (nbk (bB true) m1.length)=H1 at*;generalize bB true*nbk (bB true) m1.length=G at*;generalize yq (bB true) m1=hl at*;rw[show bB true=128 from rfl]at bo aY;obtain⟨a1,n1,c1,rfl⟩:=qr av;have cx:n1=hl.length:=yJ av;subst cx;have aN:=hid bZ;have aq:=hid bo;have bv:=hid a6;have bC:=hid bE;have aG:=hid ca;have br:=hid Z;have bh:=hid av;have ao:wr.cell? ⟨p,10,none⟩=some (.slice a1 hl.length c1):=qd Z 10;have aQ:wr.cell? ⟨p,11,none⟩=some (.int .i64 128):=qd Z 11;have aD:=frozen_of_row wr p 10 _ _ Z;have bJ:=frozen_of_row wr p 11 _ _ Z;clear Z av ca bE a6 bo bZ aF bi bA hN;go_upto_region 1 with(fail)
  obtain⟨tb,aE⟩: ∃tb,((hl.length:Int)==128)=tb:=⟨_,rfl⟩;go_quiet (fail)
  go_upto_if 17 with(fail)
  go_cut [1] from 4 (fun b W=>b= .slice ab N cb/\qkh true w S p hv h0 m1 W)
  case first=>
   have ap:Below wr.heap.size wr (wr.drewN nq):=QY nq;have ah:=qf br.out ap;have aw:=qi bh.out (fun g _ hg=>ap.block g hg);have ac:Spare S w (wr.drewN nq):=an.out.trans (Spare.of_below S ap) (fun _ _ h=>h);clear ap ao aQ aD bJ;generalize wr.drewN nq=W2 at*
   cases tb
   case false=>
    have HT:=hid aE;clear aE;go_wp2
    go_meet
    case rel=>exact⟨rfl,H1,G,hl,_,ah,aw,by have:=beq_eq_false_iff_ne.1 HT.out;show hl.length<128;omega,aN.out,ai.out,ac⟩
   have ag:hl.length=128:=by have:=eq_of_beq aE;omega
   clear aE;have bY:=hid ag;have bX:=aq.out ag;have bO:G+128<9223372036854775808:=by have:=bv.out;omega
   have bG:=hid bO;rw[ag]at ah;clear ag aY aq;have aq:=hid bX;have aa:=hid ah;have ax:=hid aw;have bP:=hid ac;clear bX ah aw ac bO;have ci:p<W2.heap.size:=(Ai aa.out).1;go_upto_region 2 with(fail)
   refine yt (fun f W=>(f=false->Below W2.heap.size W2 W)/\(f=true->W.heap[p]? =some (.cells (Zg H1 ((G+128:Nat):Int) (.slice a1 128 c1)) 287 (0,0))/\But p W2 W)) 16 [.z 19 p 0,.z 20 p 0,.z 21 p 0,.z 22 p 8,.v 23 (.agg #[.int .u64 G,.int .u64 0]),.z 24 p 0,.z 25 p 0,.z 26 p 11,.v 27 (.int .i64 128),.v 28 (.int .u64 128),.v 29 (.tuple #[.agg #[.int .u64 ((G+128:Nat):Int),.int .u64 0],.bool false]),.v 18 (.tuple #[.agg #[.int .u64 ((G+128:Nat):Int),.int .u64 0],.bool false]),.v 30 (.agg #[.int .u64 ((G+128:Nat):Int),.int .u64 0]),.v 31 (.bool false),.z 32 p 0,.z 33 p 8,.f none [] (fun _ _=>True)] (by exact⟨fun _ _ _ _ h=>h,trivial⟩) ⟨fun _=>Br.drew,fun h=>(by cases h)⟩ (fun f W W' h O=>⟨fun e=>(h.1 e).trans (O.mono (h.1 e).size),fun e=>⟨qf (h.2 e).1 O,(h.2 e).2.trans (But.of_below O)⟩⟩) ?_ ?_ ?_
   ·repeat' (with_reducible first|exact qz|refine qx ?_ ?_)
    all_goals try
     refine .inr ?_;intro A x W f r V hf o D K I;have a0:=r.2 0 (by decide);conv at a0=>rhs;whnf
     simp only[QS,yc]at D;clear o r;go_simp
     exact I _ _ BR rfl
    any_goals exact .inl rfl
    all_goals refine .inr ?_
    ·intro A x W f r V hf o _ K I;have cO:=gw r o 3 22;clear o r;have aB:f=false:=hf (by kernel_rfl);have U:=qf aa.out (V.1 aB);refine Qt 285 _ rfl p 8 cO 287 _ #[.int .u64 G,.int .u64 0] (0,0) _ U Tryz.underlying285 rfl (by kernel_rfl) (qef _ _ _) (I _ _ Br rfl)
    ·intro A x W f r V hf o _ K I;have de:=gw r o 7 26;clear o r;have aB:f=false:=hf (by kernel_rfl);have U:=qf aa.out (V.1 aB);have c0:W.cell? ⟨p,11,none⟩=some (.int .i64 128):=qd U 11;go_simp
     exact I _ _ BR rfl
    ·intro A x W f r V hf o _ K I;have da:=gw r o 4 23;have c4:=gw r o 9 28;clear o r;go_simp
     refine(qel G 128 bG.out _).mono ?_;rintro e w' ⟨rfl,O⟩;exact I _ _ O rfl
   ·intro A x W r V o K I;have cC:=gw r o 15 33;have cz:=gw r o 12 30;clear o r;have U:=qf aa.out (V.1 rfl);refine ZE 285 _ _ rfl p 8 #[.int .u64 ((G+128:Nat):Int),.int .u64 0] cC cz 287 _ U (by kernel_rfl) (by simp[Zg]) (by simp[Value.oneCell']) ?_;rw[qgG];refine I _ _ (fun _=>rfl) ⟨fun h=>(by cases h),fun _=>⟨setRow_heap _ _ _ _ _ _ U,(But.of_below (V.1 rfl)).trans (But.of_setRow _ _ _)⟩⟩ ⟨.inr (fun _ h=>h),.inr (fun _ h=>h),.inr (fun _ h=>h),.inr (fun _ h=>h),.inr (fun _ h=>h),.inr (fun _ h=>h),.inr (fun _ h=>h),.inr (fun _ h=>h),.inr (fun _ h=>h),.inr (fun _ h=>h),.inr (fun _ h=>h),.inr (fun _ h=>h),.inr (fun _ h=>h),.inr (fun _ h=>h),.inr (fun _ h=>h),.inr (fun _ h=>h),.inl rfl,trivial⟩ trivial
   intro x W V ak;obtain⟨cm, -⟩:=ak;simp only[QG,Act.put,Ls];obtain⟨bL,aM⟩:=V.2 rfl;have cy:=aM.size;have aW:W.ownsRow 0 5 1 (.slice a1 128 c1) 128 (hl.map qp):=by
    have h1:=ax.out;rw[bY.out]at h1;exact YI h1 aM aa.out (by decide)
   have bk:Spare S w W:=bP.out.trans (Spare.of_but aM) (fun b _ O=>by have h2:=HS.out;subst h2;exact O.1);have bT:Holds8 W (.slice a1 128 c1) hl:=yj aW;have ae:=hid bL;have b6:=hid aW;have bV:=hid bk;have bM:=hid bT;clear cm V bL aM aW bk bT x aa ax bP cy ci;generalize W=W3 at*;clear W2;go_upto_region 3 with(fail)
   obtain⟨H2,aU⟩:=Ex (yR true H1 hl ((G+128:Nat):Int) false false);have b8:Words 64 8 H2:=by rw[<-aU];exact Q1 true aG.out _ _ _ _
   have aX:=qfb H1 hl aG.out (.slice a1 128 c1) (G+128) (by have:=bG.out;omega) false false;have aI:=aq.out;rw[aU]at aX aI;have b9:=hid aX;have ch:=hid aI;have bc:=hid b8;clear aX aU aI b8 aq;have cj:p<W3.heap.size:=(Ai ae.out).1;refine qE (n:=18) (w0:=W3) (B:=W3.heap.size) [.z 34 p 0,.z 35 p 0,.z 36 p 0,.z 37 p 12,.v 38 (.func (.func 189) #[] #[]),.z 39 p 0,.z 40 p 0,.z 41 p 0,.v 42 (.agg (qj .u64 H1)),.z 43 p 0,.z 44 p 0,.z 45 p 10,.v 46 (.slice a1 128 c1),.z 47 p 0,.z 48 p 0,.z 49 p 8,.v 50 (.agg #[.int .u64 ((G+128:Nat):Int),.int .u64 0]),.v 51 (.agg (qj .u64 H2))] trivial Br.drew Nl ?_ ?_
   ·repeat' (with_reducible first|exact qz|refine qx ?_ ?_)
    all_goals try
     intro A x W r hW al o D K I;have a0:=r.2 0 (by decide);conv at a0=>rhs;whnf
     simp only[QS,yc]at D;clear o r;go_simp
     exact I _ _ BR rfl
    ·intro A x W r hW al o _ K I;have c6:=gv r o 3 37;clear o r;have U:=qf ae.out hW;have c0:W.cell? ⟨p,12,none⟩=some (.func (.func 189) #[] #[]):=qd U 12;go_simp
     exact I _ _ BR rfl
    ·intro A x W r hW al o _ K I;have cH:=gv r o 7 41;clear o r;have U:=qf ae.out hW;refine Qt 278 _ rfl p 0 cH 287 _ (qj .u64 H1) (0,0) _ U Tryz.underlying278 rfl (by rw[qg,aG.out.1];kernel_rfl) (qi9 aG.out _ _) (I _ _ Br rfl)
    ·intro A x W r hW al o _ K I;have c9:=gv r o 11 45;clear o r;have U:=qf ae.out hW;have c0:W.cell? ⟨p,10,none⟩=some (.slice a1 128 c1):=qd U 10;go_simp
     exact I _ _ BR rfl
    ·intro A x W r hW al o _ K I;have cp:=gv r o 15 49;clear o r;have U:=qf ae.out hW;refine Qt 285 _ rfl p 8 cp 287 _ #[.int .u64 ((G+128:Nat):Int),.int .u64 0] (0,0) _ U Tryz.underlying285 rfl (by kernel_rfl) (qef _ _ _) (I _ _ Br rfl)
    ·intro A x W r hW al o _ K I;have db:=gv r o 4 38;have di:=gv r o 8 42;have dg:=gv r o 12 46;have cZ:=gv r o 16 50;clear o r;go_simp
     refine(b9.out _ (bM.out.mono_below hW Nl) bC.out bY.out).mono ?_;rintro e w' ⟨rfl,O⟩;exact I _ _ O rfl
   intro x W hW al ak;clear ak;refine qt ?_;simp only[QG,Act.put,Ls];have bw:=qf ae.out hW;have bD:But p W3 W:=But.of_below hW;clear hW al x;go_wp2_with fail
   refine qt ?_;go_wp2_with fail
   refine qt ?_;refine Zm rfl 278 _ _ rfl p 0 (qj .u64 H2) rfl rfl 287 _ bw (by rw[qg,bc.out.1];kernel_rfl) (by rw[qg,bc.out.1];simp[Zg]) qA ?_;rw[qh2 bc.out];refine qw ?_;have ay:=setRow_heap W p _ (Zg H2 ((G+128:Nat):Int) (.slice a1 128 c1)) _ _ bw;have be:=bD.trans (But.of_setRow W p (Zg H2 ((G+128:Nat):Int) (.slice a1 128 c1)));generalize W.setRow p (Zg H2 ((G+128:Nat):Int) (.slice a1 128 c1))=W5 at*;have bx:=YI b6.out be ae.out (by decide);have bl:Spare S w W5:=bV.out.trans (Spare.of_but be) (fun b _ O=>by have h2:=HS.out;subst h2;exact O.1);have bp:=hid bx;have cr:=hid bl;have b0:=hid ay;clear bw bD be bx bl b9 b6 bV ae bM W cj W3;obtain⟨g1,rfl⟩:=jE bp.out (by decide);obtain⟨cu, -, -, -, -,aA,a7⟩:=zm bp.out;have ce:(c1:Int)<=9223372036854775807:=by unfold maxLen at a7;omega
   have bj:128<=(c1:Int):=by omega
   have ao:W5.cell? ⟨p,10,none⟩=some (.slice (some ⟨g1,0,none⟩) 128 c1):=qd ay 10;have aD:=frozen_of_row W5 p 10 _ _ ay;have cV:p<W5.heap.size:=(Ai ay).1;clear ay a7;go_wp2
   go_meet
   case rel=>
    have am:But p W5 (W5.setCell ⟨p,10,none⟩ (.slice (some ⟨g1,0,none⟩) 0 c1)):=(But.refl p W5).set 10 _;exact⟨rfl,H2,G+128,[],.slice (some ⟨g1,0,none⟩) 0 c1,heap_setCell_same W5 p 10 _ _ _ b0.out,qe3 (YI bp.out am b0.out (by decide)),by show 0<128;decide,ch.out,ai.out,cr.out.trans (Spare.of_but am) (fun b _ O=>by have h2:=HS.out;subst h2;exact O.1)⟩
  case rest=>
   clear ao aQ aD bJ aE tb nq br bh aG bC bv aq aN aY bm;obtain⟨rfl,H2,bR,q,dh,ar,aR,bu,bd,bt,ac⟩:=hcut;have cl:=an;clear ai an;simp only[cond]at ar;have cR:q.length<128:=bu;obtain⟨a2,n2,c2,rfl⟩:=qr aR;obtain rfl:n2=q.length:=yJ aR;obtain⟨k,hk⟩:=Ex (min N (128 - q.length));have HK:=hid hk;have aa:=hid ar;have ax:=hid aR;have aN:=hid bd;have ai:=hid bt;have an:=hid ac;clear hk aR bd bt ac bu;have ao:wc.cell? ⟨p,10,none⟩=some (.slice a2 q.length c2):=qd ar 10;have aQ:wc.cell? ⟨p,11,none⟩=some (.int .i64 128):=qd ar 11;have cq:p<wc.heap.size:=(Ai ar).1;clear ar;go_upto_region 5 with(fail)
   go_quiet (fail)
   rw[show min (N:Int) (128 - (q.length:Int))=(k:Int) from by have:=HK.out;omega];have am:Below wc.heap.size wc (wc.drewN nq):=QY nq;have bg:=qf aa.out am;have bN:=qi ax.out (fun g _ hg=>am.block g hg);have aH:Spare S w (wc.drewN nq):=an.out.trans (Spare.of_below S am) (fun _ _ h=>h);clear am ao aQ aa ax an cq;generalize wc.drewN nq=W6 at*;clear wc;have aS:Hold W6 (.slice ab N cb) (J.drop j):=by
    have h1:=HH.out;have h2:=cE.out;have Y:=aO.out;rw[HN.out]at h2 Y;exact Zd h2 HH.out Y cl.out aH (fun b O=>by have h4:=HS.out;subst h4;exact HF.out (fun e=>by rw[e]at af;simp at af) b O) (fun e=>by rw[e]at af;simp at af)
   obtain⟨X,hX⟩:=Ex ((J.drop j).take k);have aA:1<=k/\k<=N/\q.length+k<=128:=by have:=HK.out;omega
   have aV:X.length=k:=by rw[<-hX,List.length_take,HN.out];omega
   have aZ:Hold W6 (.slice ab k cb) X:=by rw[<-hX];exact qdq aS (by rw[HN.out];omega)
   have aT:=aZ.src;rw[aV]at aT;have HX:=hid hX;have bf:=hid aV;have dc:=hid aZ;have cM:=hid aT;have bQ:=hid aS;have bH:=hid bg;have cA:=hid bN;have aJ:=hid aH;have cU:p<W6.heap.size:=(Ai bg).1;obtain⟨aA,a7,ce⟩:=aA;have bj:(k:Int)<=N/\(k:Int)<=cb/\1<=(k:Int):=by omega
   obtain⟨bj,df,dd⟩:=bj;clear hX aV aZ aT aS bg bN aH;go_upto_region 6 with(fail)
   refine YA (n:=9) (fun f W=>(f=false->Below W6.heap.size W6 W)/\(f=true->W.heap[p]? =some (.cells (Zg H2 ((bR:Nat):Int) (.slice a2 q.length c2)) 287 (0,0))/\Spare (fun b=>(Value.slice a2 q.length c2).ownBlock≠some b) W6 W)) 8 [.z 75 p 0,.z 76 p 0,.z 77 p 0,.z 78 p 10,.v 79 (.slice a2 q.length c2),.v 80 (.slice ab N cb),.v 81 (.int .i64 k),.v 82 (.slice ab k cb),.p 83 (fun u W=>W.ownsRow 0 5 1 u (q.length+k) ((q++X).map qp)/\(u.ownBlock=(Value.slice a2 q.length c2).ownBlock\/ ∀g,u.ownBlock=some g->W6.heap.size<=g))] (by exact⟨(fun W W' O u h=>⟨qi h.1 (fun g _ hg=>O.block g hg),h.2⟩),trivial⟩) ⟨fun _=>Br.drew,fun h=>(by cases h)⟩ (fun f W W' h O=>⟨fun e=>(h.1 e).trans (O.mono (h.1 e).size),fun e=>⟨qf (h.2 e).1 O,(h.2 e).2.trans (Spare.of_below _ O) (fun _ _ h=>h)⟩⟩) ?_ ?_ ?_
   ·repeat' (with_reducible first|exact qz|refine qx ?_ ?_)
    all_goals try
     refine .inr ?_;intro A x W f r V hf o D K I;have a0:=r.2 0 (by decide);conv at a0=>rhs;whnf
     have a1:=r.2 1 (by decide);conv at a1=>rhs;whnf
     have a4:=r.2 4 (by decide);conv at a4=>rhs;whnf
     simp only[QS,yc]at D;clear o r;go_simp
     exact I _ _ BR rfl
    any_goals exact .inl rfl
    all_goals refine .inr ?_
    ·intro A x W f r V hf o _ K I;have cX:=gw r o 3 78;clear o r;have aB:f=false:=hf (by kernel_rfl);have U:=qf bH.out (V.1 aB);have c0:W.cell? ⟨p,10,none⟩=some (.slice a2 q.length c2):=qd U 10;go_simp
     exact I _ _ BR rfl
   ·intro A x W r V o K I;have cn:=gw r o 4 79;have cI:=gw r o 7 82;clear o r;have hB:=V.1 rfl;have ho:=qi cA.out (fun g _ hg=>hB.block g hg);have U:=qf bH.out hB;refine YX _ _ 24 rfl 0 5 i0 (.int .u8 0) 1 Tryz.underlying24 hi cQ cP cD rfl (.slice a2 q.length c2) q.length (q.map qp) cn ho (.slice ab k cb) k (X.map qp) cI (cM.out.below hB) (by unfold maxLen;omega) (by omega) (Nat.zero_le _) ?_;intro v' w' h1 h2 Y;have h4:w'.heap[p]? =some (.cells (Zg H2 ((bR:Nat):Int) (.slice a2 q.length c2)) 287 (0,0)):=(h2.block p (Ai U).1 (qd3 ho U (by decide))).trans U;rw[<-List.map_append]at h1;refine I v' w' (fun h=>by cases h) ⟨fun h=>(by cases h),fun _=>⟨h4,(Spare.of_below _ hB).trans (Spare.of_grown h2) (fun _ _ h=>h)⟩⟩ ⟨.inr (fun _ h=>h),.inr (fun _ h=>h),.inr (fun _ h=>h),.inr (fun _ h=>h),.inr (fun _ h=>h),.inr (fun _ h=>h),.inr (fun _ h=>h),.inr (fun _ h=>h),.inl rfl,trivial⟩ ⟨h1,?_⟩;rcases Y with Y|Y
    ·exact .inl Y
    ·refine .inr fun g hg=>?_
     rw[Y]at hg;cases hg;exact hB.size
   intro x W V ak;obtain⟨au, -⟩:=ak;change ((fun u W=>W.ownsRow 0 5 1 u (q.length+k) ((q++X).map qp)/\(u.ownBlock=(Value.slice a2 q.length c2).ownBlock\/ ∀g,u.ownBlock=some g->W6.heap.size<=g))) (x 83) W at au
   obtain⟨aC,bn⟩:=V.2 rfl;obtain⟨az,aL⟩:=au;obtain⟨a3,n3,c3,au⟩:=qr az;rw[au]at az aL;obtain rfl:n3=q.length+k:=yJ az;refine qt ?_;simp only[QG,Act.put,Ls,au];clear au;have ao:W.cell? ⟨p,10,none⟩=some (.slice a2 q.length c2):=qd aC 10;have aD:=frozen_of_row W p 10 _ _ aC;have ck:p<W.heap.size:=(Ai aC).1;have b4:=hid aC;have cB:=hid az;have cG:=hid aL;have bq:=hid bn;clear aC az aL bn V;go_wp2_with fail
   refine qt ?_;go_wp2_with fail
   refine qt ?_;go_wp2_with fail
   refine qw ?_;obtain⟨bb,ob,rfl⟩:=qaJ bQ.out (fun e=>by have:=HN.out;rw[e]at this;simp at this;omega);have a5:But p W (W.setCell ⟨p,10,none⟩ (.slice a3 (q.length+k) c3)):=(But.refl p W).set 10 _;have cw:=hid (heap_setCell_same W p 10 _ _ (.slice a3 (q.length+k) c3) b4.out);have cL:=hid (YI cB.out a5 b4.out (by decide));have aK:Spare S w (W.setCell ⟨p,10,none⟩ (.slice a3 (q.length+k) c3)):=by
    refine(aJ.out.trans bq.out ?_).trans (Spare.of_but a5) (fun b _ O=>by have h2:=HS.out;subst h2;exact O.1);intro b c5 ap;have h2:=HS.out;subst h2;rcases ai.out with Y|Y
    ·rw[Y];exact ap.2
    ·intro e;have:=Y b e;omega
   have cd:Hold (W.setCell ⟨p,10,none⟩ (.slice a3 (q.length+k) c3)) (.slice (some ⟨bb,ob,none⟩) N cb) (J.drop j):=by
    have Y:=aO.out;exact Zd bQ.out HH.out Y aJ.out aK (fun b O=>by have h4:=HS.out;subst h4;exact HF.out (fun e=>by rw[e]at af;simp at af) b O) (fun e=>by rw[e]at af;simp at af)
   have ba:=hid aK;have co:=hid cd;clear a5 aK cd ao aD ck;have cS:W6.heap.size<=(W.setCell ⟨p,10,none⟩ (.slice a3 (q.length+k) c3)).heap.size:=by have:=bq.out.size;simpa [World.setCell] using this
   generalize W.setCell ⟨p,10,none⟩ (.slice a3 (q.length+k) c3)=W8 at*;have bz:j+k<=J.length:=by have:=ct.out;have:=HN.out;omega
   have b7:Q6 true W8 p (.slice a3 (q.length+k) c3) h0 (ad++J.take (j+k)):=by
    have e0:ad++J.take (j+k)=m1++X:=by rw[<-cF.out,<-HX.out,List.append_assoc,List.take_add]
    obtain⟨e1,e2,e3⟩:=aN.out X (by rw[bf.out];omega) (by rw[bf.out];exact ce);rw[e0];unfold Q6;rw[e1,e2,e3];exact⟨cw.out,(show(q++X).length=q.length+k by rw[List.length_append,bf.out])▸cL.out⟩
   have bF:(Value.slice a3 (q.length+k) c3).ownBlock=hv.ownBlock\/ ∀g,(Value.slice a3 (q.length+k) c3).ownBlock=some g->w.heap.size<=g:=by
    rcases cG.out with Y|Y
    ·rw[Y];exact ai.out
    ·exact .inr fun g hg=>Nat.le_trans aJ.out.size (Y g hg)
   have bW:=hid b7;have bU:=hid bF;have cf:=hid (fun(a':Option Addr) (n' c':Nat) (hn:n'=(J.drop j).length - k) (hc:c'=cb - k) (h:a'=some ⟨bb,ob+k,none⟩\/a'=some ⟨bb,ob,none⟩/\cb=k)=>(show Hold W8 (.slice a' n' c') (J.drop (j+k)) by rw[<-List.drop_drop];exact Jc co.out (k:=k) (by have:=HN.out;omega) hn hc bb ob rfl h));clear b7 bF;by_cases b3:cb=k
   case pos=>
    have a8:=b3;go_wp2
    refine⟨⟨j+k,bz,cf.out _ _ _ (by rw[HN.out]) (by omega) (.inr ⟨rfl,a8⟩),aO.out,⟨_,bW.out,bU.out⟩,ba.out⟩,?_⟩;show N - k<N
    omega
   case neg=>
    have a8:=b3;go_wp2
    refine⟨⟨j+k,bz,cf.out _ _ _ (by rw[HN.out]) (by omega) (.inl rfl),aO.out,⟨_,bW.out,bU.out⟩,ba.out⟩,?_⟩;show N - k<N
    omega
theorem qaY (h0 ad J:List Int)(hh:Words 32 8 h0)(hm: ∀z∈ad,0<=z/\z<=255)(p:Nat)(hv v:Value)(w:World)(hE:Q6 false w p hv h0 ad)(hH:Hold w v J)(hF:J≠[]-> ∀b,v.ownBlock=some b->Zj p hv b)(cT:(ad.length:Int)+J.length<=140737488355328):
  Calls Tryz.prog 271 #[.pointer (some ⟨p,0,none⟩),v] w fun e w'=>e= .returned (.tuple #[])/\(∃aj,Q6 false w' p aj h0 (ad++J)/\(aj.ownBlock=hv.ownBlock\/ ∀g,aj.ownBlock=some g->w.heap.size<=g))/\Spare (Zj p hv) w w':=by
 obtain⟨i0,hi,cQ,cP,cD⟩:=info_parts Qu;have cY:p<w.heap.size:=(Ai hE.1).1;have cJ:=hid hh;have cv:=hid hm;have HE:=hid hE;have HH:=hid hH;have HF:=hid hF;have b5:=hH.1;have HZ:=hid b5;clear hh hm hE hH hF b5;obtain⟨S,hS⟩:=Ex (Zj p hv);have HS:=hid hS;rw[hS];clear hS;go_enter Tryz.func271,Tryz.ntmps271
 go_wp2_with fail
 go_loopw [1] (fun b wr=> ∃j:Nat,j<=J.length/\Hold wr b (J.drop j)/\b.ownBlock=v.ownBlock/\(∃aj,Q6 false wr p aj h0 (ad++J.take j)/\(aj.ownBlock=hv.ownBlock\/ ∀g,aj.ownBlock=some g->w.heap.size<=g))/\Spare S w wr) (fun b _=>qfd b)
 case atStart=>exact⟨0,Nat.zero_le _,by simpa using HH.out,rfl,⟨hv,by simpa using HE.out,.inl rfl⟩,Spare.refl _ _⟩
 case round=>
  obtain⟨j,hj,a9,bI,⟨cK,bK,aP⟩,cc⟩:=hrel;have cE:=hid a9;have an:=hid cc;have bm:=hid bK;have aO:=hid bI;have ai:=hid aP;obtain⟨ab,cb,rfl,cg,cW⟩:=a9.slice;clear a9 cc bK bI aP;by_cases af:j<J.length
  case neg=>
   obtain rfl:j=J.length:=by omega
   have aA:(J.drop J.length).length=0:=by simp
   rw[aA]at*;go_wp2
   go_end0
   have h1:=bm.out;rw[List.take_length]at h1;exact⟨rfl,⟨cK,h1,ai.out⟩,an.out⟩
  have bA:(J.drop j).length=J.length - j:=by simp
  have cN:0<(J.drop j).length:=by omega
  have q:((J.drop j).length:Int)<=140737488355328:=by omega
  obtain⟨m1,aF⟩:=Ex (ad++J.take j);have c8:m1.length<=140737488355328:=by rw[<-aF];simp;omega
  have bi: ∀z∈m1,0<=z/\z<=255:=by
   rw[<-aF];intro z hz;rcases List.mem_append.1 hz with hz|hz
   ·exact cv.out z hz
   ·exact HZ.out z (List.mem_of_mem_take hz)
  have c7:=hid bi;have ct:=hid bA;have bS:=bm.out;rw[aF]at bS;have cF:=hid aF;obtain⟨N,hN⟩:=Ex ((J.drop j).length);rw[hN]at cN q cg⊢;have HN:=hid hN;have a6:=qac (zb false) m1;have bZ:=qdi false h0 m1;have bo:=qdj false h0 m1;have aY:=jI (zb false) m1;have bE:=zV (n:=bB false) bi;have ca:=Yr false cJ.out m1 (nbk (bB false) m1.length);obtain⟨Z,av⟩:=bS;simp only[cond]at Z;generalize stZ false h0 m1 (nbk (bB false) m1.length)=H1 at*;generalize bB false*nbk (bB false) m1.length=G at*;generalize yq (bB false) m1=hl at*;rw[show bB false=64 from rfl]at bo aY;obtain⟨a1,n1,c1,rfl⟩:=qr av;have cx:n1=hl.length:=yJ av;subst cx;have aN:=hid bZ;have aq:=hid bo;have bv:=hid a6;have bC:=hid bE;have aG:=hid ca;have br:=hid Z;have bh:=hid av;have ao:wr.cell? ⟨p,10,none⟩=some (.slice a1 hl.length c1):=qd Z 10;have aQ:wr.cell? ⟨p,11,none⟩=some (.int .i64 64):=qd Z 11;have aD:=frozen_of_row wr p 10 _ _ Z;have bJ:=frozen_of_row wr p 11 _ _ Z;clear Z av ca bE a6 bo bZ aF bi bA hN;go_upto_region 1 with(fail)
  obtain⟨tb,aE⟩: ∃tb,((hl.length:Int)==64)=tb:=⟨_,rfl⟩;go_quiet (fail)
  go_upto_if 17 with(fail)
  go_cut [1] from 4 (fun b W=>b= .slice ab N cb/\qkh false w S p hv h0 m1 W)
  case first=>
   have ap:Below wr.heap.size wr (wr.drewN nq):=QY nq;have ah:=qf br.out ap;have aw:=qi bh.out (fun g _ hg=>ap.block g hg);have ac:Spare S w (wr.drewN nq):=an.out.trans (Spare.of_below S ap) (fun _ _ h=>h);clear ap ao aQ aD bJ;generalize wr.drewN nq=W2 at*
   cases tb
   case false=>
    have HT:=hid aE;clear aE;go_wp2
    go_meet
    case rel=>exact⟨rfl,H1,G,hl,_,ah,aw,by have:=beq_eq_false_iff_ne.1 HT.out;show hl.length<64;omega,aN.out,ai.out,ac⟩
   have ag:hl.length=64:=by have:=eq_of_beq aE;omega
   clear aE;have bY:=hid ag;have bX:=aq.out ag;have bO:G+64<9223372036854775808:=by have:=bv.out;omega
   have bG:=hid bO;rw[ag]at ah;clear ag aY aq;have aq:=hid bX;have aa:=hid ah;have ax:=hid aw;have bP:=hid ac;clear bX ah aw ac bO;have ci:p<W2.heap.size:=(Ai aa.out).1;go_upto_region 2 with(fail)
   refine yt (fun f W=>(f=false->Below W2.heap.size W2 W)/\(f=true->W.heap[p]? =some (.cells (Zf H1 ((G+64:Nat):Int) (.slice a1 64 c1)) 295 (0,0))/\But p W2 W)) 16 [.z 19 p 0,.z 20 p 0,.z 21 p 0,.z 22 p 8,.v 23 (.agg #[.int .u64 G,.int .u64 0]),.z 24 p 0,.z 25 p 0,.z 26 p 11,.v 27 (.int .i64 64),.v 28 (.int .u64 64),.v 29 (.tuple #[.agg #[.int .u64 ((G+64:Nat):Int),.int .u64 0],.bool false]),.v 18 (.tuple #[.agg #[.int .u64 ((G+64:Nat):Int),.int .u64 0],.bool false]),.v 30 (.agg #[.int .u64 ((G+64:Nat):Int),.int .u64 0]),.v 31 (.bool false),.z 32 p 0,.z 33 p 8,.f none [] (fun _ _=>True)] (by exact⟨fun _ _ _ _ h=>h,trivial⟩) ⟨fun _=>Br.drew,fun h=>(by cases h)⟩ (fun f W W' h O=>⟨fun e=>(h.1 e).trans (O.mono (h.1 e).size),fun e=>⟨qf (h.2 e).1 O,(h.2 e).2.trans (But.of_below O)⟩⟩) ?_ ?_ ?_
   ·repeat' (with_reducible first|exact qz|refine qx ?_ ?_)
    all_goals try
     refine .inr ?_;intro A x W f r V hf o D K I;have a0:=r.2 0 (by decide);conv at a0=>rhs;whnf
     simp only[QS,yc]at D;clear o r;go_simp
     exact I _ _ BR rfl
    any_goals exact .inl rfl
    all_goals refine .inr ?_
    ·intro A x W f r V hf o _ K I;have cO:=gw r o 3 22;clear o r;have aB:f=false:=hf (by kernel_rfl);have U:=qf aa.out (V.1 aB);refine Qt 285 _ rfl p 8 cO 295 _ #[.int .u64 G,.int .u64 0] (0,0) _ U Tryz.underlying285 rfl (by kernel_rfl) (qee _ _ _) (I _ _ Br rfl)
    ·intro A x W f r V hf o _ K I;have de:=gw r o 7 26;clear o r;have aB:f=false:=hf (by kernel_rfl);have U:=qf aa.out (V.1 aB);have c0:W.cell? ⟨p,11,none⟩=some (.int .i64 64):=qd U 11;go_simp
     exact I _ _ BR rfl
    ·intro A x W f r V hf o _ K I;have da:=gw r o 4 23;have c4:=gw r o 9 28;clear o r;go_simp
     refine(qel G 64 bG.out _).mono ?_;rintro e w' ⟨rfl,O⟩;exact I _ _ O rfl
   ·intro A x W r V o K I;have cC:=gw r o 15 33;have cz:=gw r o 12 30;clear o r;have U:=qf aa.out (V.1 rfl);refine ZE 285 _ _ rfl p 8 #[.int .u64 ((G+64:Nat):Int),.int .u64 0] cC cz 295 _ U (by kernel_rfl) (by simp[Zf]) (by simp[Value.oneCell']) ?_;rw[qgF];refine I _ _ (fun _=>rfl) ⟨fun h=>(by cases h),fun _=>⟨setRow_heap _ _ _ _ _ _ U,(But.of_below (V.1 rfl)).trans (But.of_setRow _ _ _)⟩⟩ ⟨.inr (fun _ h=>h),.inr (fun _ h=>h),.inr (fun _ h=>h),.inr (fun _ h=>h),.inr (fun _ h=>h),.inr (fun _ h=>h),.inr (fun _ h=>h),.inr (fun _ h=>h),.inr (fun _ h=>h),.inr (fun _ h=>h),.inr (fun _ h=>h),.inr (fun _ h=>h),.inr (fun _ h=>h),.inr (fun _ h=>h),.inr (fun _ h=>h),.inr (fun _ h=>h),.inl rfl,trivial⟩ trivial
   intro x W V ak;obtain⟨cm, -⟩:=ak;simp only[QG,Act.put,Ls];obtain⟨bL,aM⟩:=V.2 rfl;have cy:=aM.size;have aW:W.ownsRow 0 5 1 (.slice a1 64 c1) 64 (hl.map qp):=by
    have h1:=ax.out;rw[bY.out]at h1;exact YI h1 aM aa.out (by decide)
   have bk:Spare S w W:=bP.out.trans (Spare.of_but aM) (fun b _ O=>by have h2:=HS.out;subst h2;exact O.1);have bT:Holds8 W (.slice a1 64 c1) hl:=yj aW;have ae:=hid bL;have b6:=hid aW;have bV:=hid bk;have bM:=hid bT;clear cm V bL aM aW bk bT x aa ax bP cy ci;generalize W=W3 at*;clear W2;go_upto_region 3 with(fail)
   obtain⟨H2,aU⟩:=Ex (yR false H1 hl ((G+64:Nat):Int) false false);have b8:Words 32 8 H2:=by rw[<-aU];exact Q1 false aG.out _ _ _ _
   have aX:=qdl H1 hl aG.out (.slice a1 64 c1) (G+64) (by have:=bG.out;omega) false false;have aI:=aq.out;rw[aU]at aX aI;have b9:=hid aX;have ch:=hid aI;have bc:=hid b8;clear aX aU aI b8 aq;have cj:p<W3.heap.size:=(Ai ae.out).1;refine qE (n:=18) (w0:=W3) (B:=W3.heap.size) [.z 34 p 0,.z 35 p 0,.z 36 p 0,.z 37 p 12,.v 38 (.func (.func 192) #[] #[]),.z 39 p 0,.z 40 p 0,.z 41 p 0,.v 42 (.agg (qj .u32 H1)),.z 43 p 0,.z 44 p 0,.z 45 p 10,.v 46 (.slice a1 64 c1),.z 47 p 0,.z 48 p 0,.z 49 p 8,.v 50 (.agg #[.int .u64 ((G+64:Nat):Int),.int .u64 0]),.v 51 (.agg (qj .u32 H2))] trivial Br.drew Nl ?_ ?_
   ·repeat' (with_reducible first|exact qz|refine qx ?_ ?_)
    all_goals try
     intro A x W r hW al o D K I;have a0:=r.2 0 (by decide);conv at a0=>rhs;whnf
     simp only[QS,yc]at D;clear o r;go_simp
     exact I _ _ BR rfl
    ·intro A x W r hW al o _ K I;have c6:=gv r o 3 37;clear o r;have U:=qf ae.out hW;have c0:W.cell? ⟨p,12,none⟩=some (.func (.func 192) #[] #[]):=qd U 12;go_simp
     exact I _ _ BR rfl
    ·intro A x W r hW al o _ K I;have cH:=gv r o 7 41;clear o r;have U:=qf ae.out hW;refine Qt 288 _ rfl p 0 cH 295 _ (qj .u32 H1) (0,0) _ U Tryz.underlying288 rfl (by rw[qg,aG.out.1];kernel_rfl) (qi8 aG.out _ _) (I _ _ Br rfl)
    ·intro A x W r hW al o _ K I;have c9:=gv r o 11 45;clear o r;have U:=qf ae.out hW;have c0:W.cell? ⟨p,10,none⟩=some (.slice a1 64 c1):=qd U 10;go_simp
     exact I _ _ BR rfl
    ·intro A x W r hW al o _ K I;have cp:=gv r o 15 49;clear o r;have U:=qf ae.out hW;refine Qt 285 _ rfl p 8 cp 295 _ #[.int .u64 ((G+64:Nat):Int),.int .u64 0] (0,0) _ U Tryz.underlying285 rfl (by kernel_rfl) (qee _ _ _) (I _ _ Br rfl)
    ·intro A x W r hW al o _ K I;have db:=gv r o 4 38;have di:=gv r o 8 42;have dg:=gv r o 12 46;have cZ:=gv r o 16 50;clear o r;go_simp
     refine(b9.out _ (bM.out.mono_below hW Nl) bC.out bY.out).mono ?_;rintro e w' ⟨rfl,O⟩;exact I _ _ O rfl
   intro x W hW al ak;clear ak;refine qt ?_;simp only[QG,Act.put,Ls];have bw:=qf ae.out hW;have bD:But p W3 W:=But.of_below hW;clear hW al x;go_wp2_with fail
   refine qt ?_;go_wp2_with fail
   refine qt ?_;refine Zm rfl 288 _ _ rfl p 0 (qj .u32 H2) rfl rfl 295 _ bw (by rw[qg,bc.out.1];kernel_rfl) (by rw[qg,bc.out.1];simp[Zf]) qA ?_;rw[qh1 bc.out];refine qw ?_;have ay:=setRow_heap W p _ (Zf H2 ((G+64:Nat):Int) (.slice a1 64 c1)) _ _ bw;have be:=bD.trans (But.of_setRow W p (Zf H2 ((G+64:Nat):Int) (.slice a1 64 c1)));generalize W.setRow p (Zf H2 ((G+64:Nat):Int) (.slice a1 64 c1))=W5 at*;have bx:=YI b6.out be ae.out (by decide);have bl:Spare S w W5:=bV.out.trans (Spare.of_but be) (fun b _ O=>by have h2:=HS.out;subst h2;exact O.1);have bp:=hid bx;have cr:=hid bl;have b0:=hid ay;clear bw bD be bx bl b9 b6 bV ae bM W cj W3;obtain⟨g1,rfl⟩:=jE bp.out (by decide);obtain⟨cu, -, -, -, -,aA,a7⟩:=zm bp.out;have ce:(c1:Int)<=9223372036854775807:=by unfold maxLen at a7;omega
   have bj:64<=(c1:Int):=by omega
   have ao:W5.cell? ⟨p,10,none⟩=some (.slice (some ⟨g1,0,none⟩) 64 c1):=qd ay 10;have aD:=frozen_of_row W5 p 10 _ _ ay;have cV:p<W5.heap.size:=(Ai ay).1;clear ay a7;go_wp2
   go_meet
   case rel=>
    have am:But p W5 (W5.setCell ⟨p,10,none⟩ (.slice (some ⟨g1,0,none⟩) 0 c1)):=(But.refl p W5).set 10 _;exact⟨rfl,H2,G+64,[],.slice (some ⟨g1,0,none⟩) 0 c1,heap_setCell_same W5 p 10 _ _ _ b0.out,qe3 (YI bp.out am b0.out (by decide)),by show 0<64;decide,ch.out,ai.out,cr.out.trans (Spare.of_but am) (fun b _ O=>by have h2:=HS.out;subst h2;exact O.1)⟩
  case rest=>
   clear ao aQ aD bJ aE tb nq br bh aG bC bv aq aN aY bm;obtain⟨rfl,H2,bR,q,dh,ar,aR,bu,bd,bt,ac⟩:=hcut;have cl:=an;clear ai an;simp only[cond]at ar;have cR:q.length<64:=bu;obtain⟨a2,n2,c2,rfl⟩:=qr aR;obtain rfl:n2=q.length:=yJ aR;obtain⟨k,hk⟩:=Ex (min N (64 - q.length));have HK:=hid hk;have aa:=hid ar;have ax:=hid aR;have aN:=hid bd;have ai:=hid bt;have an:=hid ac;clear hk aR bd bt ac bu;have ao:wc.cell? ⟨p,10,none⟩=some (.slice a2 q.length c2):=qd ar 10;have aQ:wc.cell? ⟨p,11,none⟩=some (.int .i64 64):=qd ar 11;have cq:p<wc.heap.size:=(Ai ar).1;clear ar;go_upto_region 5 with(fail)
   go_quiet (fail)
   rw[show min (N:Int) (64 - (q.length:Int))=(k:Int) from by have:=HK.out;omega];have am:Below wc.heap.size wc (wc.drewN nq):=QY nq;have bg:=qf aa.out am;have bN:=qi ax.out (fun g _ hg=>am.block g hg);have aH:Spare S w (wc.drewN nq):=an.out.trans (Spare.of_below S am) (fun _ _ h=>h);clear am ao aQ aa ax an cq;generalize wc.drewN nq=W6 at*;clear wc;have aS:Hold W6 (.slice ab N cb) (J.drop j):=by
    have h1:=HH.out;have h2:=cE.out;have Y:=aO.out;rw[HN.out]at h2 Y;exact Zd h2 HH.out Y cl.out aH (fun b O=>by have h4:=HS.out;subst h4;exact HF.out (fun e=>by rw[e]at af;simp at af) b O) (fun e=>by rw[e]at af;simp at af)
   obtain⟨X,hX⟩:=Ex ((J.drop j).take k);have aA:1<=k/\k<=N/\q.length+k<=64:=by have:=HK.out;omega
   have aV:X.length=k:=by rw[<-hX,List.length_take,HN.out];omega
   have aZ:Hold W6 (.slice ab k cb) X:=by rw[<-hX];exact qdq aS (by rw[HN.out];omega)
   have aT:=aZ.src;rw[aV]at aT;have HX:=hid hX;have bf:=hid aV;have dc:=hid aZ;have cM:=hid aT;have bQ:=hid aS;have bH:=hid bg;have cA:=hid bN;have aJ:=hid aH;have cU:p<W6.heap.size:=(Ai bg).1;obtain⟨aA,a7,ce⟩:=aA;have bj:(k:Int)<=N/\(k:Int)<=cb/\1<=(k:Int):=by omega
   obtain⟨bj,df,dd⟩:=bj;clear hX aV aZ aT aS bg bN aH;go_upto_region 6 with(fail)
   refine YA (n:=9) (fun f W=>(f=false->Below W6.heap.size W6 W)/\(f=true->W.heap[p]? =some (.cells (Zf H2 ((bR:Nat):Int) (.slice a2 q.length c2)) 295 (0,0))/\Spare (fun b=>(Value.slice a2 q.length c2).ownBlock≠some b) W6 W)) 8 [.z 75 p 0,.z 76 p 0,.z 77 p 0,.z 78 p 10,.v 79 (.slice a2 q.length c2),.v 80 (.slice ab N cb),.v 81 (.int .i64 k),.v 82 (.slice ab k cb),.p 83 (fun u W=>W.ownsRow 0 5 1 u (q.length+k) ((q++X).map qp)/\(u.ownBlock=(Value.slice a2 q.length c2).ownBlock\/ ∀g,u.ownBlock=some g->W6.heap.size<=g))] (by exact⟨(fun W W' O u h=>⟨qi h.1 (fun g _ hg=>O.block g hg),h.2⟩),trivial⟩) ⟨fun _=>Br.drew,fun h=>(by cases h)⟩ (fun f W W' h O=>⟨fun e=>(h.1 e).trans (O.mono (h.1 e).size),fun e=>⟨qf (h.2 e).1 O,(h.2 e).2.trans (Spare.of_below _ O) (fun _ _ h=>h)⟩⟩) ?_ ?_ ?_
   ·repeat' (with_reducible first|exact qz|refine qx ?_ ?_)
    all_goals try
     refine .inr ?_;intro A x W f r V hf o D K I;have a0:=r.2 0 (by decide);conv at a0=>rhs;whnf
     have a1:=r.2 1 (by decide);conv at a1=>rhs;whnf
     have a4:=r.2 4 (by decide);conv at a4=>rhs;whnf
     simp only[QS,yc]at D;clear o r;go_simp
     exact I _ _ BR rfl
    any_goals exact .inl rfl
    all_goals refine .inr ?_
    ·intro A x W f r V hf o _ K I;have cX:=gw r o 3 78;clear o r;have aB:f=false:=hf (by kernel_rfl);have U:=qf bH.out (V.1 aB);have c0:W.cell? ⟨p,10,none⟩=some (.slice a2 q.length c2):=qd U 10;go_simp
     exact I _ _ BR rfl
   ·intro A x W r V o K I;have cn:=gw r o 4 79;have cI:=gw r o 7 82;clear o r;have hB:=V.1 rfl;have ho:=qi cA.out (fun g _ hg=>hB.block g hg);have U:=qf bH.out hB;refine YX _ _ 24 rfl 0 5 i0 (.int .u8 0) 1 Tryz.underlying24 hi cQ cP cD rfl (.slice a2 q.length c2) q.length (q.map qp) cn ho (.slice ab k cb) k (X.map qp) cI (cM.out.below hB) (by unfold maxLen;omega) (by omega) (Nat.zero_le _) ?_;intro v' w' h1 h2 Y;have h4:w'.heap[p]? =some (.cells (Zf H2 ((bR:Nat):Int) (.slice a2 q.length c2)) 295 (0,0)):=(h2.block p (Ai U).1 (qd3 ho U (by decide))).trans U;rw[<-List.map_append]at h1;refine I v' w' (fun h=>by cases h) ⟨fun h=>(by cases h),fun _=>⟨h4,(Spare.of_below _ hB).trans (Spare.of_grown h2) (fun _ _ h=>h)⟩⟩ ⟨.inr (fun _ h=>h),.inr (fun _ h=>h),.inr (fun _ h=>h),.inr (fun _ h=>h),.inr (fun _ h=>h),.inr (fun _ h=>h),.inr (fun _ h=>h),.inr (fun _ h=>h),.inl rfl,trivial⟩ ⟨h1,?_⟩;rcases Y with Y|Y
    ·exact .inl Y
    ·refine .inr fun g hg=>?_
     rw[Y]at hg;cases hg;exact hB.size
   intro x W V ak;obtain⟨au, -⟩:=ak;change ((fun u W=>W.ownsRow 0 5 1 u (q.length+k) ((q++X).map qp)/\(u.ownBlock=(Value.slice a2 q.length c2).ownBlock\/ ∀g,u.ownBlock=some g->W6.heap.size<=g))) (x 83) W at au
   obtain⟨aC,bn⟩:=V.2 rfl;obtain⟨az,aL⟩:=au;obtain⟨a3,n3,c3,au⟩:=qr az;rw[au]at az aL;obtain rfl:n3=q.length+k:=yJ az;refine qt ?_;simp only[QG,Act.put,Ls,au];clear au;have ao:W.cell? ⟨p,10,none⟩=some (.slice a2 q.length c2):=qd aC 10;have aD:=frozen_of_row W p 10 _ _ aC;have ck:p<W.heap.size:=(Ai aC).1;have b4:=hid aC;have cB:=hid az;have cG:=hid aL;have bq:=hid bn;clear aC az aL bn V;go_wp2_with fail
   refine qt ?_;go_wp2_with fail
   refine qt ?_;go_wp2_with fail
   refine qw ?_;obtain⟨bb,ob,rfl⟩:=qaJ bQ.out (fun e=>by have:=HN.out;rw[e]at this;simp at this;omega);have a5:But p W (W.setCell ⟨p,10,none⟩ (.slice a3 (q.length+k) c3)):=(But.refl p W).set 10 _;have cw:=hid (heap_setCell_same W p 10 _ _ (.slice a3 (q.length+k) c3) b4.out);have cL:=hid (YI cB.out a5 b4.out (by decide));have aK:Spare S w (W.setCell ⟨p,10,none⟩ (.slice a3 (q.length+k) c3)):=by
    refine(aJ.out.trans bq.out ?_).trans (Spare.of_but a5) (fun b _ O=>by have h2:=HS.out;subst h2;exact O.1);intro b c5 ap;have h2:=HS.out;subst h2;rcases ai.out with Y|Y
    ·rw[Y];exact ap.2
    ·intro e;have:=Y b e;omega
   have cd:Hold (W.setCell ⟨p,10,none⟩ (.slice a3 (q.length+k) c3)) (.slice (some ⟨bb,ob,none⟩) N cb) (J.drop j):=by
    have Y:=aO.out;exact Zd bQ.out HH.out Y aJ.out aK (fun b O=>by have h4:=HS.out;subst h4;exact HF.out (fun e=>by rw[e]at af;simp at af) b O) (fun e=>by rw[e]at af;simp at af)
   have ba:=hid aK;have co:=hid cd;clear a5 aK cd ao aD ck;have cS:W6.heap.size<=(W.setCell ⟨p,10,none⟩ (.slice a3 (q.length+k) c3)).heap.size:=by have:=bq.out.size;simpa [World.setCell] using this
   generalize W.setCell ⟨p,10,none⟩ (.slice a3 (q.length+k) c3)=W8 at*;have bz:j+k<=J.length:=by have:=ct.out;have:=HN.out;omega
   have b7:Q6 false W8 p (.slice a3 (q.length+k) c3) h0 (ad++J.take (j+k)):=by
    have e0:ad++J.take (j+k)=m1++X:=by rw[<-cF.out,<-HX.out,List.append_assoc,List.take_add]
    obtain⟨e1,e2,e3⟩:=aN.out X (by rw[bf.out];omega) (by rw[bf.out];exact ce);rw[e0];unfold Q6;rw[e1,e2,e3];exact⟨cw.out,(show(q++X).length=q.length+k by rw[List.length_append,bf.out])▸cL.out⟩
   have bF:(Value.slice a3 (q.length+k) c3).ownBlock=hv.ownBlock\/ ∀g,(Value.slice a3 (q.length+k) c3).ownBlock=some g->w.heap.size<=g:=by
    rcases cG.out with Y|Y
    ·rw[Y];exact ai.out
    ·exact .inr fun g hg=>Nat.le_trans aJ.out.size (Y g hg)
   have bW:=hid b7;have bU:=hid bF;have cf:=hid (fun(a':Option Addr) (n' c':Nat) (hn:n'=(J.drop j).length - k) (hc:c'=cb - k) (h:a'=some ⟨bb,ob+k,none⟩\/a'=some ⟨bb,ob,none⟩/\cb=k)=>(show Hold W8 (.slice a' n' c') (J.drop (j+k)) by rw[<-List.drop_drop];exact Jc co.out (k:=k) (by have:=HN.out;omega) hn hc bb ob rfl h));clear b7 bF;by_cases b3:cb=k
   case pos=>
    have a8:=b3;go_wp2
    refine⟨⟨j+k,bz,cf.out _ _ _ (by rw[HN.out]) (by omega) (.inr ⟨rfl,a8⟩),aO.out,⟨_,bW.out,bU.out⟩,ba.out⟩,?_⟩;show N - k<N
    omega
   case neg=>
    have a8:=b3;go_wp2
    refine⟨⟨j+k,bz,cf.out _ _ _ (by rw[HN.out]) (by omega) (.inl rfl),aO.out,⟨_,bW.out,bU.out⟩,ba.out⟩,?_⟩;show N - k<N
    omega
