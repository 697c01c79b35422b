/- The bytes of a state, by the reference. No condition. -/
import Derived.Test.YtdndeffmlhaipaaGreatDoorM17
import Derived.Test.YtdndeffmlhaipaaGreatDoorM18
import Derived.Test.YtdndeffmlhaipaaGreatDoorM11
import Derived.Test.YtdndeffmlhaipaaGreatDoorM14
import Derived.Laws.CopyRow
import Derived.Laws.MakeOwn
import Derived.Laws.Externs
set_option linter.all false
set_option maxRecDepth 100000
set_option maxHeartbeats 8000000
namespace Go.Proofs.YtdndeffmlhaipaaGreatDoor
open Go.ChangeShapes Go.WideShapes Go.ChangeAt Go.RowKit Go.Joins Go.Shelf Go.Maps
open Go.Lib (hid)
attribute [local go_sem] Oper.semAt_some yt
def wB (big:Bool):Nat:=cond big 8 4
def bB (big:Bool):Nat:=cond big 128 64
def nB (big:Bool):Nat:=cond big 64 32
def wK (big:Bool):IntKind:=cond big .u64 .u32
theorem yg (big:Bool):0<bB big:=by cases big<;>decide
theorem qeF (big:Bool): ∀z,(wK big).wrap z=z%2^nB big:=by
 cases big
 ·intro z;exact IntKind.wrap_u32 z
 ·intro z;exact IntKind.wrap_u64 z
def Ym (big:Bool)(h bs:List Int)(lo:Int)(last node:Bool):List Int:=
 cond big (jy mixBig IVb 12 h (Qv 8 16 bs) lo 0 last node) (jy mixSmall IVs 10 h (Qv 4 16 bs) (lo%4294967296) (lo/4294967296) last node)
theorem QP (big:Bool){h:List Int}(hh:Words (nB big) 8 h)(bs:List Int)(lo:Int)(last node:Bool):Words (nB big) 8 (Ym big h bs lo last node):=by
 cases big
 ·exact QO (k:= .u32) (N:=32) (fun z=>IntKind.wrap_u32 z) hh 8
 ·exact QO (k:= .u64) (N:=64) (fun z=>IntKind.wrap_u64 z) hh 8
def ym (n:Nat)(zs:List Int):List Int:=zs++List.replicate (n - zs.length) 0
theorem yC {n:Nat}{zs:List Int}(h:zs.length≤n):(ym n zs).length=n:=by simp[ym];omega
theorem qdc {n:Nat}{zs:List Int}(h:zs.length=n):ym n zs=zs:=by simp[ym,h]
theorem yD {n:Nat}{zs:List Int}(h: ∀z∈zs,0≤z∧z≤255): ∀z∈ym n zs,0≤z∧z≤255:=by
 intro z hz;rcases List.mem_append.1 hz with hz|hz
 ·exact h z hz
 ·rw[List.eq_of_mem_replicate hz];omega
def qcy (n:Nat)(msg:List Int)(k:Nat):List Int:=ym n ((msg.drop (n*k)).take n)
theorem qeu {n:Nat}{msg x:List Int}{k:Nat}(h:n*(k+1)≤msg.length):qcy n (msg++x) k=qcy n msg k:=by
 have e:n*(k+1)=n*k+n:=Nat.mul_succ n k;unfold qcy;rw[List.drop_append_of_le_length (by omega),List.take_append_of_le_length (by simp;omega)]
def stZ (big:Bool)(h0 msg:List Int):Nat→List Int
 | 0=>h0
 | k+1=>Ym big (stZ big h0 msg k) (qcy (bB big) msg k) ((bB big*(k+1):Nat):Int) false false
theorem Yy (big:Bool){h0:List Int}(hh:Words (nB big) 8 h0)(msg:List Int): ∀k,Words (nB big) 8 (stZ big h0 msg k)
 | 0=>hh
 | k+1=>QP big (Yy big hh msg k) _ _ _ _
theorem qax (big:Bool)(h0:List Int){msg x:List Int}: ∀{k:Nat},bB big*k≤msg.length→stZ big h0 (msg++x) k=stZ big h0 msg k
 | 0,_=>rfl
 | k+1,h=>by
  have e:bB big*(k+1)=bB big*k+bB big:=Nat.mul_succ _ k;rw[stZ,stZ,qax big h0 (k:=k) (by omega),qeu h]
def nbk (n len:Nat):Nat:=(len - 1)/n
theorem zi {n:Nat}(hn:0<n)(len:Nat):n*nbk n len≤len∧len≤n*nbk n len+n∧(0<len→n*nbk n len<len):=by
 have h1:=Nat.div_add_mod (len - 1) n;have h2:=Nat.mod_lt (len - 1) hn;unfold nbk;omega
theorem qd8 {n len q:Nat}(h1:n*q<len)(h2:len≤n*q+n):nbk n len=q:=by
 unfold nbk;have h3:q*n=n*q:=Nat.mul_comm _ _;have h4:(q+1)*n=n*q+n:=by rw[Nat.succ_mul,h3]
 exact Nat.div_eq_of_lt_le (by omega) (by omega)
theorem qd7 (n:Nat):nbk n 0=0:=by simp[nbk]
def Qj (n:Nat)(msg:List Int):List Int:=msg.drop (n*nbk n msg.length)
theorem yU (n:Nat)(msg:List Int):(Qj n msg).length=msg.length - n*nbk n msg.length:=by simp[Qj]
theorem zn {n:Nat}(hn:0<n)(msg:List Int):(Qj n msg).length≤n:=by
 rw[yU];have:=zi hn msg.length;omega
theorem yV {n:Nat}{msg:List Int}(h: ∀z∈msg,0≤z∧z≤255): ∀z∈Qj n msg,0≤z∧z≤255:=fun z hz=>h z (List.mem_of_mem_drop hz)
theorem jg {n:Nat}(hn:0<n)(msg:List Int):qcy n msg (nbk n msg.length)=ym n (Qj n msg):=by
 unfold qcy;show ym n ((Qj n msg).take n)=_
 rw[List.take_of_length_le (zn hn msg)]
theorem qdo {n:Nat}(hn:0<n){msg x:List Int}(hx:0<x.length)(hr:(Qj n msg).length+x.length≤n):
  nbk n (msg++x).length=nbk n msg.length∧Qj n (msg++x)=Qj n msg++x:=by
 rw[yU]at hr;have h1:=zi hn msg.length;have h2:nbk n (msg++x).length=nbk n msg.length:=qd8 (by simp;omega) (by simp;omega);refine⟨h2,?_⟩;unfold Qj;rw[h2,List.drop_append_of_le_length h1.1]
theorem qdp {n:Nat}(hn:0<n){msg x:List Int}(hx:0<x.length)(hx2:x.length≤n)(hr:(Qj n msg).length=n):
  nbk n (msg++x).length=nbk n msg.length+1∧Qj n (msg++x)=x∧n*(nbk n msg.length+1)=msg.length:=by
 rw[yU]at hr;have h1:=zi hn msg.length;have h3:n*(nbk n msg.length+1)=n*nbk n msg.length+n:=Nat.mul_succ _ _;have h4:n*(nbk n msg.length+1)=msg.length:=by omega
 have h2:nbk n (msg++x).length=nbk n msg.length+1:=qd8 (by simp;omega) (by simp;omega);refine⟨h2,?_,h4⟩;unfold Qj;rw[h2,h4,List.drop_left]
def qcB (big:Bool)(h0 msg H:List Int)(lo:Nat)(hl:List Int):Prop:=
 ∀x:List Int,0<x.length→hl.length+x.length≤bB big→stZ big h0 (msg++x) (nbk (bB big) (msg++x).length)=H∧bB big*nbk (bB big) (msg++x).length=lo∧Qj (bB big) (msg++x)=hl++x
theorem J6 (big:Bool)(h0 msg:List Int):qcB big h0 msg (stZ big h0 msg (nbk (bB big) msg.length)) (bB big*nbk (bB big) msg.length) (Qj (bB big) msg):=by
 intro x hx hr;obtain⟨h1,h2⟩:=qdo (yg big) hx hr;rw[h1,h2];exact⟨qax big h0 (zi (yg big) _).1,rfl,rfl⟩
theorem J7 (big:Bool)(h0 msg:List Int)(hf:(Qj (bB big) msg).length=bB big):
  qcB big h0 msg (Ym big (stZ big h0 msg (nbk (bB big) msg.length)) (Qj (bB big) msg) ((bB big*nbk (bB big) msg.length+bB big:Nat):Int) false false) (bB big*nbk (bB big) msg.length+bB big) []:=by
 intro x hx hr;obtain⟨h1,h2,h3⟩:=qdp (yg big) hx (by simpa using hr) hf;have e:bB big*(nbk (bB big) msg.length+1)=bB big*nbk (bB big) msg.length+bB big:=Nat.mul_succ _ _;rw[h1,h2];refine⟨?_,e,rfl⟩;rw[qax big h0 (by omega),stZ,jg (yg big),qdc hf,e]
theorem ZN {n:Nat}(hn:0<n)(msg:List Int):n*nbk n msg.length+(Qj n msg).length=msg.length:=by
 rw[yU];have:=zi hn msg.length;omega
def zW (big:Bool)(h0 msg:List Int)(node:Bool):List Int:=
 qP (wB big) (Ym big (stZ big h0 msg (nbk (bB big) msg.length)) (qcy (bB big) msg (nbk (bB big) msg.length)) (msg.length:Int) true node) 8
theorem yF (big:Bool)(h0 msg:List Int)(node:Bool):(zW big h0 msg node).length=mB big:=by
 unfold zW;rw[z8];cases big<;>rfl
theorem zh (big:Bool)(h0 msg:List Int)(node:Bool): ∀z∈zW big h0 msg node,0≤z∧z≤255:=Za _ _ _
def h0Z (big:Bool)(block:List Int):List Int:=yK (wK big) (cond big IVb IVs) (wB big) block
theorem Q7 (big:Bool)(block:List Int):Words (nB big) 8 (h0Z big block):=YK (qeF big) _ _ _
def yn (n:Nat)(key:List Int):List Int:=if key.length=0 then [] else ym n key
theorem Yj {n:Nat}{key:List Int}(h: ∀z∈key,0≤z∧z≤255): ∀z∈yn n key,0≤z∧z≤255:=by
 unfold yn;split
 ·intro z hz;cases hz
 ·exact yD h
theorem Yi {n:Nat}{key:List Int}(h:key.length≤n):(yn n key).length≤n:=by
 unfold yn;split
 ·simp
 ·rw[yC h];exact Nat.le_refl _
end Go.Proofs.YtdndeffmlhaipaaGreatDoor
namespace Go.Proofs.YtdndeffmlhaipaaGreatDoor
open Go Go.ChangeShapes Go.WideShapes Go.ChangeAt Go.RowKit Go.Joins Go.Shelf Go.Maps
open Go.Lib (hid)
theorem Z2 {P:Program}(w:World)(t tx ty e:TypeId)(k:IntKind)(i:TypeInfo)(z:Value)(ht:P.underlying t=some (.slice e))(htx:P.underlying tx=some (.int k))(hi:P.info? e=some i)(hz:i.zero=some z)(hsize:i.size=1)(hzc:z.cells= #[z])
  (g n cap m:Nat) (cur:Array Value) (hg:w.heap[g]? =some (.cells cur e (0,0))) (hroom:n+m≤cap) (hfit:n+m≤cur.size) (hm:(m:Int)<9223372036854775808) (hb:(m:Int)*i.bytes≤281474976710656) (h1:z.oneCell'=true):
  (Builtin.append_ #[t,tx] ty #[.slice (some ⟨g,0,none⟩) n cap,.int .i64 (m:Int)]).run P w=
   .ok (.slice (some ⟨g,0,none⟩) (n+m) cap) (w.setRow g (cur.toList.take n++List.replicate m z++cur.toList.drop (n+m)).toArray):=by
 have hw:IntKind.i64.wrap (m:Int)=(m:Int):=by rw[IntKind.wrap_i64];omega
 have hn1: ¬(m:Int)<0:=by omega
 have hn2: ¬(m:Int)*(i.bytes:Int)>281474976710656:=by omega
 have hst:=run_storeCells_at P g n e (List.replicate m z) 0 cur w hg (by simpa using hfit) (fun v hv=>by rw[List.eq_of_mem_replicate hv];exact h1);simp only[Nat.add_zero,List.length_replicate]at hst;by_cases h0:m=0
 ·subst h0;simp only[List.replicate_zero]at hst⊢;have hw0:IntKind.i64.wrap 0=0:=rfl;simp only[Nat.add_zero]at hroom;simp[Builtin.append_,run_underlying ht,run_underlying htx,sizeOf,typeInfo,hi,hsize,asInt,asIntOf,hw0,hroom,Addr.add_lit]at hst⊢
  rw[hst];rfl
 ·have hzc':(Builtin.zeroCells #[z] m).toList=List.replicate m z:=by
   simp[Builtin.zeroCells,Nat.mod_one]
   apply List.ext_getElem?
   intro j;simp only[List.getElem?_map,List.getElem?_range',List.getElem?_replicate];by_cases hj:j<m<;>simp[hj,Nat.mod_one]
  simp[Builtin.append_,run_underlying ht,run_underlying htx,sizeOf,typeInfo,hi,hsize,asInt,asIntOf,hw,hn1,hn2,hroom,h0,zeroValue,hz,hzc,hzc',Addr.add_lit,hst]
theorem zV {P:Program}{w:World}{ops:Array Oper}{o:Oper}{l:List Oper}{a:Act}{Q:Exit→Act→World→Prop}(hgd:o.guard=none)(s x:Operand)(t tx:TypeId)
  (ho:o.op= .call { callee:= .builtin .append,args:= #[s,x],argTypes:= #[t,tx] }) (e:TypeId) (k:IntKind) (i:TypeInfo) (z:Value) (ht:P.underlying t=some (.slice e)) (htx:P.underlying tx=some (.int k)) (hi:P.info? e=some i) (hz:i.zero=some z) (hsize:i.size=1) (hzc:z.cells= #[z])
  (g n cap m:Nat) (cur:Array Value) (hs:a.eval s= .slice (some ⟨g,0,none⟩) n cap) (hx:a.eval x= .int .i64 (m:Int)) (hg:w.heap[g]? =some (.cells cur e (0,0))) (hroom:n+m≤cap) (hfit:n+m≤cur.size) (hm:(m:Int)<9223372036854775808) (hb:(m:Int)*i.bytes≤281474976710656) (h1:z.oneCell'=true)
  (h:wpList P ops Q l (a.put o.dst (.slice (some ⟨g,0,none⟩) (n+m) cap)) (w.setRow g (cur.toList.take n++List.replicate m z++cur.toList.drop (n+m)).toArray)):wpList P ops Q (o::l) a w:=by
 refine wpList_plain hgd fun K hK=>?_
 have hrun:=Z2 (P:=P) w t tx o.type e k i z ht htx hi hz hsize hzc g n cap m cur hg hroom hfit hm hb h1;unfold Oper.wp execOp;simp only[ho,resolve,invoke,builtin,Sem.run_bind,Sem.run_pure,Result.andThen_ok,List.map_toArray,List.map_cons,List.map_nil,hs,hx,hrun];exact hK _ _ h
def Yh (cur:Array Value)(o:Nat)(cells:Array Value):Array Value:=(cur.toList.take o++cells.toList++cur.toList.drop (o+cells.size)).toArray
theorem ZB {P:Program}(w:World)(g off:Nat)(t ty:TypeId)(cur cells:Array Value)(hg:w.heap[g]? =some (.cells cur t (0,0)))(hi:(P.info? ty).map (·.size)=some cells.size)
  (ho:off+cells.size≤cur.size) (h1:cells.all (·.oneCell')=true):
  (storeVar ty ⟨g,off,none⟩ (.agg cells)).run P w= .ok () (w.setRow g (Yh cur off cells)):=by
 have:=run_storeCells_at P g off t cells.toList 0 cur w hg (by simpa using ho) (fun v hv=>(Array.all_eq_true_iff_forall_mem.1 h1) v (by simpa using hv))
 cases hq:P.info? ty with
 | none=>simp[hq]at hi
 | some i=>
  have hs:cells.size=i.size:=by simp[hq]at hi;omega
  simp only[Nat.add_zero,Array.length_toList]at this;simp[storeVar,sizeOf,typeInfo,hq,Value.cells,hs,Yh]at this⊢
  exact this
theorem Yr {P:Program}{o:Oper}{a:Act}{w:World}{K:Act→World→Prop}{Q:Exit→Act→World→Prop}(ty:TypeId)(x y:Operand)(ho:o.op= .store ty x y)
  (g off:Nat) (cells:Array Value) (hx:a.eval x= .pointer (some ⟨g,off,none⟩)) (hy:a.eval y= .agg cells)
  (t:TypeId) (cur:Array Value) (hg:w.heap[g]? =some (.cells cur t (0,0))) (hi:(P.info? ty).map (·.size)=some cells.size)
  (hfit:off+cells.size≤cur.size) (h1:cells.all (·.oneCell')=true)
  (h:K (a.put o.dst undef) (w.setRow g (Yh cur off cells))):o.wp P a w K Q:=by
 unfold Oper.wp execOp;simp only[ho,hx,hy,Instr.storeAt,Instr.sureAddr,Sem.run_bind,Sem.run_pure,Result.andThen_ok,ZB w g off t ty cur cells hg hi hfit h1];exact h
theorem Yf {P:Program}{ops:Array Oper}{rest:List Oper}{o:Oper}{a:Act}{w:World}{Q:Exit→Act→World→Prop}(hgd:o.guard=none)(ty:TypeId)(x y:Operand)(ho:o.op= .store ty x y)
  (g off:Nat) (cells:Array Value) (hx:a.eval x= .pointer (some ⟨g,off,none⟩)) (hy:a.eval y= .agg cells)
  (t:TypeId) (cur:Array Value) (hg:w.heap[g]? =some (.cells cur t (0,0))) (hi:(P.info? ty).map (·.size)=some cells.size)
  (hfit:off+cells.size≤cur.size) (h1:cells.all (·.oneCell')=true)
  (h:wpList P ops Q rest (a.put o.dst undef) (w.setRow g (Yh cur off cells))):wpList P ops Q (o::rest) a w:=
 wpList_plain hgd fun _ hK=>Yr ty x y ho g off cells hx hy t cur hg hi hfit h1 (hK _ _ h)
theorem Z1 {P:Program}(w:World)(g off:Nat)(t ty:TypeId)(cur cs:Array Value)(fr:Nat×Nat)(d:TypeDesc)(hg:w.heap[g]? =some (.cells cur t fr))
  (hu:P.underlying ty=some d) (hd:(match d with| .struct _| .array _ _=>true|_=>false)=true) (hi:(P.info? ty).map (·.size)=some cs.size) (hc: ∀j,j<cs.size→cur[off+j]? =cs[j]?):
  (loadVar ty ⟨g,off,none⟩).run P w= .ok (.agg cs) w:=by
 have hl:(loadCells ⟨g,off,none⟩ cs.toList.length).run P w= .ok cs.toList.toArray w:=
  run_loadCells_list (P:=P) w ⟨g,off,none⟩ cs.toList (fun j v hv=>by
   have hj:j<cs.size:=by have:=(List.getElem?_eq_some_iff.1 hv).1;simpa using this
   have hadd:(⟨g,off,none⟩:Addr).add j=⟨g,off+j,none⟩:=by unfold Addr.add;split<;>simp_all
   rw[hadd,cell_of_row w g (off+j) cur t fr hg,hc j hj];simpa using hv)
 cases hq:P.info? ty with
 | none=>simp[hq]at hi
 | some i=>
  have hs:i.size=cs.size:=by simpa [hq] using hi
  have hagg:(isAgg ty).run P w= .ok true w:=by
   unfold isAgg;rw[Sem.run_bind,run_underlying hu w]
   cases d<;>simp_all
  simp only[Array.length_toList,Array.toArray_toList]at hl;simp[loadVar,Sem.run_bind,hagg,sizeOf,typeInfo,hq,hs,hl]
theorem qF {P:Program}{o:Oper}{a:Act}{w:World}{K:Act→World→Prop}{Q:Exit→Act→World→Prop}(ty:TypeId)(x:Operand)(ho:o.op= .load ty x)
  (g off:Nat) (hx:a.eval x= .pointer (some ⟨g,off,none⟩)) (t:TypeId) (cur cs:Array Value) (fr:Nat×Nat) (d:TypeDesc) (hg:w.heap[g]? =some (.cells cur t fr))
  (hu:P.underlying ty=some d) (hd:(match d with| .struct _| .array _ _=>true|_=>false)=true) (hi:(P.info? ty).map (·.size)=some cs.size) (hc: ∀j,j<cs.size→cur[off+j]? =cs[j]?)
  (h:K (a.put o.dst (.agg cs)) w):o.wp P a w K Q:=by
 unfold Oper.wp execOp;simp only[ho,hx,Instr.loadAt,Instr.sureAddr,Sem.run_bind,Sem.run_pure,Result.andThen_ok,Z1 w g off t ty cur cs fr d hg hu hd hi hc];exact h
theorem Zh {P:Program}{w:World}{ops:Array Oper}{o:Oper}{l:List Oper}{a:Act}{Q:Exit→Act→World→Prop}(hgd:o.guard=none)(s x:Operand)(t:TypeId)
  (ho:o.op= .call { callee:= .builtin .append,args:= #[s,x],argTypes:= #[t,t] }) (base:Nat) (e:TypeId) (i:TypeInfo) (ht:P.underlying t=some (.slice e)) (hi:P.info? e=some i) (hsize:i.size=1)
  (g n cap:Nat) (xs:List Value) (hs:a.eval s= .slice (some ⟨g,0,none⟩) n cap) (hown:w.ownsRow base e 1 (.slice (some ⟨g,0,none⟩) n cap) n xs)
  (u:Value) (m:Nat) (news:List Value) (hx:a.eval x=u) (hsrc:SrcIs w u m news) (hroom:n+m≤cap)
  (h: ∀w',w'.ownsRow base e 1 (.slice (some ⟨g,0,none⟩) (n+m) cap) (n+m) (xs++news)→w.grownBy w' (some g)→wpList P ops Q l (a.put o.dst (.slice (some ⟨g,0,none⟩) (n+m) cap)) w'):wpList P ops Q (o::l) a w:=by
 refine wpList_plain hgd fun K hK=>?_
 have hrun: ∃w',(Builtin.append_ #[t,t] o.type #[.slice (some ⟨g,0,none⟩) n cap,u]).run P w= .ok (.slice (some ⟨g,0,none⟩) (n+m) cap) w'∧w'.ownsRow base e 1 (.slice (some ⟨g,0,none⟩) (n+m) cap) (n+m) (xs++news)∧w.grownBy w' (some g):=by
  obtain⟨h1,h2,h3⟩:=hsrc;rcases h3 with⟨rfl,rfl⟩|⟨ad,c,rfl,h3⟩
  ·obtain rfl:news=[]:=List.eq_nil_of_length_eq_zero h1;exact⟨w,by rw[Nat.add_zero];exact run_append_owned_none w base t o.type e i 1 ht hi _ n xs hown,by simpa using hown,⟨rfl,rfl,rfl,Nat.le_refl _,fun _ _ _=>rfl⟩⟩
  ·exact run_append_fits w base t o.type e i 1 ht hi hsize g n cap xs hown ad m c news (by omega) h3 h2 hroom
 obtain⟨w',hr,h2,h3⟩:=hrun;unfold Oper.wp execOp;simp only[ho,resolve,invoke,builtin,Sem.run_bind,Sem.run_pure,Result.andThen_ok,List.map_toArray,List.map_cons,List.map_nil,hs,hx,hr];exact hK _ _ (h w' h2 h3)
theorem zL {w:World}{base:Nat}{e:TypeId}{g n cap m:Nat}{xs:List Value}(h:w.ownsRow base e 1 (.slice (some ⟨g,0,none⟩) m cap) n xs):
  ∃cur,w.heap[g]? =some (.cells cur e (0,0))∧cur.size=cap∧cur.toList.take n=xs∧base≤g∧n≤cap∧cap≤maxLen:=by
 rcases h.2 with⟨h, -⟩|⟨g',cap',cur,h,h1,h2,h3,h4,h5,h6⟩
 ·simp at h
 ·simp only[Value.slice.injEq,Option.some.injEq,Addr.mk.injEq,and_true,true_and]at h;obtain⟨rfl, -,rfl⟩:=h;exact⟨cur,h2,by simpa using h5,by simpa using h6,h1,h3,h4⟩
theorem jE {P:Program}(w:World)(base:Nat)(t ty e:TypeId)(i:TypeInfo)(z:Value)(bytes:Nat)(ht:P.underlying t=some (.slice e))(hi:P.info? e=some i)(hz:i.zero=some z)
  (hsize:i.size=1) (hby:i.bytes=bytes) (hzs:z.cells.size=1) (v:Value) (n:Nat) (xs:List Value) (hown:w.ownsRow base e 1 v n xs)
  (u:Value) (m:Nat) (news:List Value) (hsrc:SrcIs w u m news) (h63:n+m≤maxLen) (hbytes:(n+m)*bytes≤140737488355328) (hbase:base≤w.heap.size):
  ∃v' w',(Builtin.append_ #[t,t] ty #[v,u]).run P w= .ok v' w'∧w'.ownsRow base e 1 v' (n+m) (xs++news)∧w.grownBy w' v.ownBlock∧(v'.ownBlock=v.ownBlock∨v'.ownBlock=some w.heap.size):=by
 obtain⟨h1,h2,h3⟩:=hsrc;rcases h3 with⟨rfl,rfl⟩|⟨ad,c,rfl,h3⟩
 ·obtain rfl:news=[]:=List.eq_nil_of_length_eq_zero h1;exact⟨v,w,run_append_owned_none w base t ty e i 1 ht hi v n xs hown,by simpa using hown,⟨rfl,rfl,rfl,Nat.le_refl _,fun _ _ _=>rfl⟩,.inl rfl⟩
 ·obtain⟨v',w',hr,ho,hg, -⟩:=run_append_own (P:=P) w base t ty e i z 1 bytes ht hi hz hsize hby hzs (by omega) v n xs hown ad m c news (by omega) h3 h2 h63 hbytes hbase;refine⟨v',w',hr,ho,hg,?_⟩;have hsmall:n+m≤9223372036854775807:=by simp only[maxLen]at h63;omega
  rcases hown.2 with⟨rfl,rfl⟩|⟨g,cap,cur,rfl,hbg,hg2,hnc,hcm,hcs,htake⟩
  ·by_cases hm:m=0
   ·subst hm;obtain rfl:news=[]:=List.eq_nil_of_length_eq_zero h1;rcases ho.2 with⟨rfl, -⟩|⟨g,cap,cur,rfl, -⟩
    ·exact .inl rfl
    ·exfalso
     have hr':(Builtin.append_ #[t,t] ty #[.slice none 0 0,.slice (some ad) 0 c]).run P w= .ok (.slice none 0 0) w:=by
      simp[Builtin.append_,run_underlying ht,sizeOf,typeInfo,hi,Builtin.lenOf,Builtin.firstCells,loadCells,loadCellsFrom]
     rw[hr]at hr';injection hr' with e1
     cases e1
   ·have hr':=run_append_nil (P:=P) w t ty e i z ht hi hz ad m c news (by rw[hsize];omega) h3 (by omega) (by omega) (by rw[hby];have hb:=hbytes;simp only[Nat.zero_add]at hb;omega);rw[hr]at hr';injection hr' with e1
    subst e1;exact .inr rfl
  ·by_cases hroom:n+m≤cap
   ·have hr':=run_append_room (P:=P) w t ty e i ht hi g n cap cur hg2 ad m c news (by rw[hsize];omega) h3 h2 hroom (by rw[hsize];omega);rw[hr]at hr';injection hr' with e1
    subst e1;exact .inl rfl
   ·have holds: ∀j u,xs[j]? =some u→w.cell? ((⟨g,0,none⟩:Addr).add j)=some u:=hown.cells (g:=g) rfl;have hr':=run_append_grow (P:=P) w t ty e i z ht hi hz ⟨g,0,none⟩ n cap xs (by rw[hsize];exact hown.1) holds ad m c news (by rw[hsize];omega) h3 (by omega) (by omega) (by rw[hby];exact growslice_fits (by omega) hbytes);rw[hr]at hr';injection hr' with e1
    subst e1;exact .inr rfl
theorem Y5 {P:Program}{w:World}{o:Oper}{a:Act}{K:Act→World→Prop}{Q:Exit→Act→World→Prop}(s x:Operand)(t:TypeId)
  (ho:o.op= .call { callee:= .builtin .append,args:= #[s,x],argTypes:= #[t,t] }) (base:Nat)
  (e:TypeId) (i:TypeInfo) (z:Value) (bytes:Nat) (ht:P.underlying t=some (.slice e)) (hi:P.info? e=some i) (hz:i.zero=some z)
  (hsize:i.size=1) (hby:i.bytes=bytes) (hzs:z.cells.size=1) (v:Value) (n:Nat) (xs:List Value) (hs:a.eval s=v) (hown:w.ownsRow base e 1 v n xs)
  (u:Value) (m:Nat) (news:List Value) (hx:a.eval x=u) (hsrc:SrcIs w u m news) (h63:n+m≤maxLen) (hbytes:(n+m)*bytes≤140737488355328) (hbase:base≤w.heap.size)
  (h: ∀v' w',w'.ownsRow base e 1 v' (n+m) (xs++news)→w.grownBy w' v.ownBlock→(v'.ownBlock=v.ownBlock∨v'.ownBlock=some w.heap.size)→K (a.put o.dst v') w'):o.wp P a w K Q:=by
 obtain⟨v',w',hr,h2,h3,h4⟩:=jE (P:=P) w base t o.type e i z bytes ht hi hz hsize hby hzs v n xs hown u m news hsrc h63 hbytes hbase;unfold Oper.wp execOp;simp only[ho,resolve,invoke,builtin,Sem.run_bind,Sem.run_pure,Result.andThen_ok,List.map_toArray,List.map_cons,List.map_nil,hs,hx,hr];exact h v' w' h2 h3 h4
end Go.Proofs.YtdndeffmlhaipaaGreatDoor
namespace Go.Proofs.YtdndeffmlhaipaaGreatDoor
open Go.ChangeShapes Go.WideShapes Go.ChangeAt Go.RowKit Go.Joins Go.Shelf Go.Maps
open Go.Lib (hid)
attribute [local go_sem] Oper.semAt_some
def Hold (w:World)(v:Value)(zs:List Int):Prop:=
 (∀z∈zs,0≤z∧z≤255)∧((zs=[]∧v= .slice none 0 0)∨ ∃ad cap,v= .slice (some ad) zs.length cap∧zs.length≤cap∧cap≤maxLen∧(zs=[]∨ ∃b off,ad=⟨b,off,none⟩∧Qs w b off zs))
theorem Hold.nil (w:World):Hold w (.slice none 0 0) []:=⟨(fun _ h=>by cases h),.inl ⟨rfl,rfl⟩⟩
theorem Hold.holds8 {w:World}{v:Value}{zs:List Int}(h:Hold w v zs):Holds8 w v zs:=by
 rcases h.2 with⟨rfl,rfl⟩|⟨ad,cap,rfl,h1,h2,h3⟩
 ·exact⟨none,0,rfl,.inl rfl⟩
 ·refine⟨some ad,cap,rfl,?_⟩;rcases h3 with h3|⟨b,off,rfl,h3⟩
  ·exact .inl h3
  ·exact .inr ⟨b,off,rfl,h3⟩
theorem Hold.slice {w:World}{v:Value}{zs:List Int}(h:Hold w v zs): ∃a cap,v= .slice a zs.length cap∧zs.length≤cap∧(cap:Int)≤9223372036854775807:=by
 rcases h.2 with⟨rfl,rfl⟩|⟨ad,cap,rfl,h1,h2,h3⟩
 ·exact⟨none,0,rfl,Nat.le_refl _,by omega⟩
 ·exact⟨some ad,cap,rfl,h1,by unfold maxLen at h2;omega⟩
theorem Hold.src {w:World}{v:Value}{zs:List Int}(h:Hold w v zs):SrcIs w v zs.length (zs.map qv):=by
 rcases h.2 with⟨rfl,rfl⟩|⟨ad,cap,rfl,h1,h2,h3⟩
 ·exact⟨rfl,by simp,.inl ⟨rfl,rfl⟩⟩
 ·refine⟨by simp,qbm,.inr ⟨ad,cap,rfl,?_⟩⟩;rcases h3 with rfl|⟨b,off,rfl,h3⟩
  ·intro j u hj;simp at hj
  ·intro j u hj;obtain⟨hj1,rfl⟩:=List.getElem?_eq_some_iff.1 hj;simp at hj1
   rw[Go.WideShapes.add_plain,h3.2 j hj1];simp[qv,qp,Lg,hj1]
theorem Hold.keep {w w':World}{v:Value}{zs:List Int}(h:Hold w v zs)(hs:w.heap.size≤w'.heap.size)(hk: ∀b,v.ownBlock=some b→b<w.heap.size→w'.heap[b]? =w.heap[b]?):Hold w' v zs:=by
 refine⟨h.1,?_⟩;rcases h.2 with h2|⟨ad,cap,rfl,h1,h2,h3⟩
 ·exact .inl h2
 ·refine .inr ⟨ad,cap,rfl,h1,h2,?_⟩;rcases h3 with h3|⟨b,off,rfl,h3,h4⟩
  ·exact .inl h3
  ·refine .inr ⟨b,off,rfl,Nat.lt_of_lt_of_le h3 hs,fun i hi=>?_⟩;rw[←h4 i hi];exact World.cell?_of_block (hk b rfl h3)
theorem Hold.below {w w':World}{v:Value}{zs:List Int}(h:Hold w v zs)(hb:Below w.heap.size w w'):Hold w' v zs:=h.keep hb.size fun b _ hlt=>hb.block b hlt
theorem Qa {W:World}{base:Nat}{v:Value}{n:Nat}{zs:List Int}(h:W.ownsRow base 5 1 v n (zs.map qv))(hz: ∀z∈zs,0≤z∧z≤255):Hold W v zs:=by
 have hl:zs.length=n:=by have:=h.1;simpa using this
 refine⟨hz,?_⟩;rcases h.2 with⟨rfl,h0⟩|⟨g,cap,cur,rfl,h1,h2,h3,h4,h5,h6⟩
 ·exact .inl ⟨List.eq_nil_of_length_eq_zero (by omega),rfl⟩
 ·refine .inr ⟨⟨g,0,none⟩,cap,by rw[hl],by omega,h4,?_⟩;obtain⟨a,c,e,hh⟩:=Ya h;rcases hh with hh|⟨b,off,hb,hB⟩
  ·exact .inl hh
  ·rw[hb]at e;simp only[Value.slice.injEq,Option.some.injEq,Addr.mk.injEq,and_true]at e;obtain⟨⟨rfl,rfl⟩, -, -⟩:=e;exact .inr ⟨_,_,rfl,hB⟩
theorem qap (x y c:Nat)(hx:x<18446744073709551616)(hy:y<18446744073709551616)(hc:c≤1)(w:World):
  (callFunc 202 #[.int .u64 (x:Nat),.int .u64 (y:Nat),.int .u64 (c:Nat)]).run Tryz.prog w=
   .ok (.value (.tuple #[.int .u64 (((x+y+c)%18446744073709551616:Nat):Int),.int .u64 (((x+y+c)/18446744073709551616:Nat):Int)])) w:=by
 rw[run_callFunc_extern Tryz.func202 (by kernel_rfl) (by kernel_rfl) (by kernel_rfl) (e:=add64Entry) (by kernel_rfl),run_add64 x y c (by omega) (by omega) (by omega) (by omega)];simp only[Result.andThen];congr 5<;>omega
theorem qaU (lo n:Nat)(h:lo+n<9223372036854775808)(w:World):
  Calls Tryz.prog 201 #[.agg #[.int .u64 (lo:Nat),.int .u64 0],.int .u64 (n:Nat)] w fun e w'=>e= .returned (.tuple #[.agg #[.int .u64 ((lo+n:Nat):Int),.int .u64 0],.bool false])∧Below w.heap.size w w':=by
 have h1:=qap lo n 0 (by omega) (by omega) (by omega);have h2:=qap 0 0 0 (by omega) (by omega) (by omega);rw[show(lo+n+0)%18446744073709551616=lo+n by omega,show(lo+n+0)/18446744073709551616=0 by omega]at h1;rw[show(0+0+0)%18446744073709551616=0 by omega,show(0+0+0)/18446744073709551616=0 by omega]at h2;simp only[Int.natCast_zero]at h1 h2;obtain⟨s,hs⟩:=Ex (lo+n);rw[hs]at h1⊢;clear hs h;go_enter Tryz.func201,Tryz.ntmps201
 go_wp2_with (simp only[h1,h2])
 exact Bp (v:= .tuple #[.agg #[.int .u64 (s:Nat),.int .u64 0],.bool false]) (by simp[results,Tryz.results201,go_sem]) rfl ⟨rfl,(Br.alloc Nl _).alloc (by simp) _⟩
theorem YQ (big:Bool)(w:World):Calls Tryz.prog 57 #[.int .i64 (kB big)] w fun e w'=>e= .returned (.int .i64 (bB big:Nat))∧w'=w:=by
 cases big<;>
 ·simp only[kB,bB,cond];go_enter Tryz.func57,Tryz.ntmps57
  go_wp2
  go_ret
  exact⟨rfl,rfl⟩
theorem zK (zs:List Int)(v:Value)(n:Nat)(w:World)(h:Hold w v zs)(hl:zs.length≤n)(hn:1≤n∧n≤65535):
  Calls Tryz.prog 73 #[v,.int .i64 (n:Nat)] w fun e w'=> ∃v',e= .returned v'∧w'.ownsRow w.heap.size 5 1 v' n ((ym n zs).map qv)∧Below w.heap.size w w':=by
 obtain⟨i0,hi,hz0,hz1,hz2⟩:=info_parts QH;have hsrc:=h.src;obtain⟨a,cap,rfl,hc1,hc2⟩:=h.slice;have hmk: ∀W:World,(Instr.makeSlice 24 (.int .i64 0) (.int .i64 (n:Nat))).run Tryz.prog W= .ok (.slice (some ⟨W.heap.size,0,none⟩) 0 n) (W.alloc (.cells (madeCells #[.int .u8 0] n) 5)):=by
  intro W;have:=run_make (P:=Tryz.prog) W 24 5 i0 (.int .u8 0) Tryz.underlying24 hi hz0 .i64 .i64 0 n (by omega) (by omega) (by rw[hz2];omega) (by omega)
  simpa [hz1,show(Value.int .u8 0).cells= #[.int .u8 0] from rfl] using this
 have hown:(w.alloc (.cells (madeCells #[.int .u8 0] n) 5)).ownsRow w.heap.size 5 1 (.slice (some ⟨w.heap.size,0,none⟩) 0 n) 0 []:=by
  refine⟨rfl,.inr ⟨w.heap.size,n,_,rfl,Nat.le_refl _,Wn _ _,Nat.zero_le _,by unfold maxLen;omega,by simp[madeCells],rfl⟩⟩
 have hb1:Below w.heap.size w (w.alloc (.cells (madeCells #[.int .u8 0] n) 5)):=Br.alloc Nl _;have hsrc1:=hsrc.below hb1;clear h hsrc;go_enter Tryz.func73,Tryz.ntmps73
 obtain⟨m,hm⟩:=Ex (n - zs.length);have hk1:(n:Int) - (zs.length:Int)=(m:Int):=by omega
 have hm2:m≤65535:=by omega
 have K1:=hid hk1;have HM:=hid hm;have hm1:zs.length+m=n:=by omega
 have HM1:=hid hm1;obtain⟨b0,hb0⟩:=Ex w.heap.size;rw[hb0]at hown hb1;clear hk1 hm hm1;go_wp2_with (first|((with_reducible show wpList _ _ _ (Oper.mk (some 8) _ _ _ _ _::_) _ _);refine Zh rfl _ _ _ rfl b0 5 i0 Tryz.underlying24 hi hz1 b0 0 n [] (by rw[←hb0];rfl) hown _ zs.length _ rfl hsrc1 (by omega) ?_;intro w2 hown2 hgr2;obtain⟨cur,hg2,hcs,htk, -⟩:=zL hown2)|((with_reducible show wpList _ _ _ (Oper.mk (some 13) _ _ _ _ _::_) _ _);refine zV rfl _ _ _ _ rfl 5 .i64 i0 (.int .u8 0) Tryz.underlying24 Tryz.underlying3 hi hz0 hz1 rfl b0 zs.length n m cur rfl (by rw[←K1.out];rfl) hg2 (by rw[HM1.out];exact Nat.le_refl _) (by rw[HM1.out,hcs];exact Nat.le_refl _) (by omega) (by rw[hz2];omega) rfl ?_))
 go_ret
 rw[HM1.out];have hp:ym n zs=zs++List.replicate m 0:=by rw[←HM.out];rfl
 have hcur:cur.toList.take zs.length=zs.map qv:=by simpa using htk
 have hcn:cur.toList.drop n=[]:=List.drop_of_length_le (by simp[hcs]);refine⟨_,rfl,⟨by rw[hp];simp[HM1.out],.inr ⟨b0,n,_,rfl,by omega,setRow_heap _ _ _ _ _ _ hg2,Nat.le_refl _,by unfold maxLen;omega,?_,?_⟩⟩,?_⟩
 ·have hl1:=congrArg List.length hcur;simp at hl1
  simp[hcs,HM1.out];have:=HM1.out;omega
 ·rw[hp,hcur,hcn];simp only[List.append_nil,List.map_append,List.map_replicate];exact List.take_of_length_le (by simp[HM1.out])
 ·rw[hb0];exact below_setRow (hb1.grown hgr2 (by simp[hb0]) (fun k e=>by cases e;exact Nat.le_refl _)) Nl _
end Go.Proofs.YtdndeffmlhaipaaGreatDoor
