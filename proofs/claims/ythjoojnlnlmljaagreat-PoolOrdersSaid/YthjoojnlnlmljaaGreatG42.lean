/- A message with another qcl in a leaf's place: plain; bytes of one's own with one byte turned; a copy of bytes. No condition. -/
import Derived.Test.YthjoojnlnlmljaaGreatG39
import Derived.Test.YthjoojnlnlmljaaGreatG35
import Derived.Test.YthjoojnlnlmljaaGreatG05
import Derived.Test.YthjoojnlnlmljaaGreatG04
import Derived.Deep.Slices
import Derived.Test.YthjoojnlnlmljaaGreatG34
import Derived.BigQuiet
import Derived.Deep.QuietTactic
import Derived.Deep.AppendLies
import Derived.Deep.RegionHeld3
import Derived.Laws.AppendOwnNone
import Derived.Maps.AppendAt
import Derived.Deep.DeepCutAuto
import Derived.Test.YthjoojnlnlmljaaGreatG40
import Derived.Test.YthjoojnlnlmljaaGreatG41
import Derived.Test.YthjoojnlnlmljaaGreatG37
import Derived.Maps.OwnSet
set_option linter.all false
set_option maxRecDepth 100000
set_option maxHeartbeats 8000000
namespace Go.Proofs.YthjoojnlnlmljaaGreat
open Go.ChangeShapes Go.WideShapes Go.ChangeAt Go.RowKit Go.Joins Go.Shelf Go.Maps
open Go.Lib (hid)
attribute [local go_sem] Oper.semAt_some
theorem gp {a0 A:Act}{x:Tmp→Value}{ds:List Tmp}{gs:List (Value→World→Prop)}{G:List Oper}{W:World}{o:Array Edge}{q:Value→World→Prop}{D:Oper}(U:Za a0 x ds A)
  (I: ∀e∈o,Region.binds .any e=true→ ∀D,G[e.on]? =some D→QK gs e.on (qJ x D) W) (i s:Nat)
  (Z:s∈ds:=by decide) (J:(⟨i,.data⟩:Edge)∈o:=by simp) (V:G[i]? =some D:=by rfl) (Y:qJ x D=x s:=by rfl) (X:QK gs i=q:=by rfl):q (A.tmps.getD s undef) W:=by
 have:=I _ J rfl D V
 rw[X,Y]at this;rw[U.1 s Z];exact this
end Go.Proofs.YthjoojnlnlmljaaGreat
namespace Go.Proofs.YthjoojnlnlmljaaGreat
open Go.ChangeShapes Go.WideShapes Go.ChangeAt Go.RowKit Go.Joins Go.Shelf Go.Maps
open Go.Lib (hid)
def MapK (W W':World):Prop:= ∀(q:Nat) (o:Obj),W.heap[q]? =some o→(match o with| .cells _ _ _=>False|_=>True)→W'.heap[q]? =some o
theorem MapK.trans {W W' D:World}(h:MapK W W')(k:MapK W' D):MapK W D:=fun q o I G=>k q o (h q o I G) G
theorem MapK.of_below {W W':World}(h:Below W.heap.size W W'):MapK W W':=fun q o D _=>qg D h
theorem MapK.of_but {W W':World}{g:Nat}{c:Array Value}{T:TypeId}{fr:Nat×Nat}(h:But g W W')(I:W.heap[g]? =some (.cells c T fr)):MapK W W':=fun q o D G=>by
 rw[h.block q (Ai D).1 (fun e=>?_)]
 ·exact D
 ·rw[e,I]at D;obtain rfl:=Option.some.inj D;exact G
theorem qb8 {W W':World}{B T s n:Nat}{v:Value}{U:List Value}(I:W.ownsRow B T s v n U)(h:Spare (fun k=>v.ownBlock≠some k) W W'):MapK W W':=fun q o D G=>by
 rw[h.block q (Ai D).1 (fun e=>?_)]
 ·exact D
 ·obtain⟨c,J⟩:=Yu I q e;rw[J]at D;obtain rfl:=Option.some.inj D;exact G
def qdz (m:Nat→Nat)(r x:Nat):Nat→Nat:=fun q=>if q=r then x else m q
def qdA (O:Nat→List Int)(r:Nat)(x:List Int):Nat→List Int:=fun q=>if q=r then x else O q
theorem qga (m:Nat→Nat)(r x:Nat):qdz m r x r=x:=if_pos rfl
theorem QX {m:Nat→Nat}{r x q:Nat}(h:q≠r):qdz m r x q=m q:=if_neg h
theorem qca (O:Nat→List Int)(r:Nat)(x:List Int):qdA O r x r=x:=if_pos rfl
theorem YE {O:Nat→List Int}{r q:Nat}{x:List Int}(h:q≠r):qdA O r x q=O q:=if_neg h
def JL (t:TreeV)(total:Nat)(rv mv:Value)(next:Int)(n bo bm:Nat)(dv:Value):Array Value:=
 #[.int .i64 t.k,.int .i64 t.d,.int .i64 t.f,.int .i64 t.p,.int .u32 t.l,.int .i64 t.i,.slice t.ka t.kl t.kc,.slice t.sa t.sl t.sc,.slice t.pa t.pl t.pc,.int .u64 total,rv,mv,.int .i64 next,.slice (some ⟨bo,0,none⟩) n n,.slice (some ⟨bm,0,none⟩) n n,dv]
def Jz (m:Nat→Nat)(n:Nat):Array Value:=((List.range n).map fun r=>Value.int .u64 (m r:Nat)).toArray
theorem qbr {m:Nat→Nat}{n r:Nat}(h:r<n):(Jz m n)[r]? =some (.int .u64 (m r:Nat)):=by
 unfold Jz;simp[h]
theorem qgG (m:Nat→Nat)(n r x:Nat):(Jz m n).setIfInBounds r (.int .u64 (x:Nat))=Jz (qdz m r x) n:=by
 apply Array.ext'
 apply List.ext_getElem?
 intro i;unfold Jz qdz;rw[Array.toList_setIfInBounds,List.getElem?_set];by_cases q:r=i
 ·subst q;by_cases o:r<n<;>simp[o]
 ·rw[if_neg q];by_cases o:i<n
  ·simp[o,Ne.symm q]
  ·simp[o]
structure CombS (t:TreeV)(total B bc bo bm n:Nat)(rv mv:Value)(next:Int)(m:Nat→Nat)(O:Nat→List Int)(W:World)(os:List Value)(dv:Value):Prop where
 box:W.heap[bc]? =some (.cells (JL t total rv mv next n bo bm dv) 149 (0,0))
 opn:W.heap[bo]? =some (.cells os.toArray 24 (0,0))
 len:os.length=n
 mad:W.heap[bm]? =some (.cells (Jz m n) 44 (0,0))
 row: ∀r,r<n→W.ownsRow B 5 1 (os.getD r undef) (O r).length ((O r).map qt)
 byt: ∀r,r<n→ ∀z∈O r,0≤z∧z≤255
 sep: ∀r s g,r≠s→(os.getD r undef).ownBlock=some g→(os.getD s undef).ownBlock≠some g
 base:B≤bc∧B≤bo∧B≤bm
namespace CombS
variable {t:TreeV} {total B bc bo bm n:Nat} {rv mv:Value} {next:Int} {m:Nat→Nat} {O:Nat→List Int} {W W':World} {os:List Value} {dv:Value}
theorem below (h:CombS t total B bc bo bm n rv mv next m O W os dv)(o:Below W.heap.size W W'):CombS t total B bc bo bm n rv mv next m O W' os dv:=
 ⟨qg h.box o,qg h.opn o,h.len,qg h.mad o,fun r q=>QZ (h.row r q) (fun g D=>o.block g (Qf (h.row r q) g D)),h.byt,h.sep,h.base⟩
theorem olt (h:CombS t total B bc bo bm n rv mv next m O W os dv): ∀r g,(os.getD r undef).ownBlock=some g→r<n∧g<W.heap.size:=fun r g o=>by
 by_cases q:r<n
 ·exact⟨q,Qf (h.row r q) g o⟩
 ·rw[Lg,List.getElem?_eq_none (by have:=h.len;omega)]at o
  cases o
theorem off {g:Nat}{c:Array Value}{T:TypeId}{fr:Nat×Nat}(h:CombS t total B bc bo bm n rv mv next m O W os dv)(D:W.heap[g]? =some (.cells c T fr))(q:T≠5): ∀r k,(os.getD r undef).ownBlock=some k→k≠g:=fun r k o=>
 Y3 (h.row r (h.olt r k o).1) D q k o
theorem ne1 (h:CombS t total B bc bo bm n rv mv next m O W os dv):bc≠bo∧bc≠bm∧bo≠bm:=by
 refine⟨fun e=>?_,fun e=>?_,fun e=>?_⟩
 ·have:=h.box;rw[e,h.opn]at this
  simp only[Option.some.injEq,Obj.cells.injEq]at this;exact absurd this.2.1 (by decide)
 ·have:=h.box;rw[e,h.mad]at this
  simp only[Option.some.injEq,Obj.cells.injEq]at this;exact absurd this.2.1 (by decide)
 ·have:=h.opn;rw[e,h.mad]at this
  simp only[Option.some.injEq,Obj.cells.injEq]at this;exact absurd this.2.1 (by decide)
theorem setMade (h:CombS t total B bc bo bm n rv mv next m O W os dv)(r x:Nat):CombS t total B bc bo bm n rv mv next (qdz m r x) O (W.setCell ⟨bm,r,none⟩ (.int .u64 (x:Nat))) os dv:=by
 have o:=(But.refl bm W).set r (.int .u64 (x:Nat));obtain⟨U,I,J⟩:=h.ne1;refine⟨(o.block bc (Ai h.box).1 I).trans h.box,(o.block bo (Ai h.opn).1 J).trans h.opn,h.len,?_,fun q D=>QZ (h.row q D) (fun g G=>o.block g (Qf (h.row q D) g G) (h.off h.mad (by decide) q g G)),h.byt,h.sep,h.base⟩;rw[←qgG];exact block_setCell h.mad _
theorem setBox {D:Value}{o:Int}(h:CombS t total B bc bo bm n rv mv next m O W os dv)(G:But bc W W')(V:W'.heap[bc]? =some (.cells (JL t total rv mv o n bo bm D) 149 (0,0))):CombS t total B bc bo bm n rv mv o m O W' os D:=by
 obtain⟨U,X,Y⟩:=h.ne1;exact⟨V,(G.block bo (Ai h.opn).1 (Ne.symm U)).trans h.opn,h.len,(G.block bm (Ai h.mad).1 (Ne.symm X)).trans h.mad,fun q I=>QZ (h.row q I) (fun g J=>G.block g (Qf (h.row q I) g J) (h.off h.box (by decide) q g J)),h.byt,h.sep,h.base⟩
theorem setOpen {W1:World}{r:Nat}{v':Value}{ys:List Int}(h:CombS t total B bc bo bm n rv mv next m O W os dv)(hr:r<n)(G:Spare (fun k=>(os.getD r undef).ownBlock≠some k) W W1)(ho:W1.ownsRow B 5 1 v' ys.length (ys.map qt))(hy: ∀z∈ys,0≤z∧z≤255)
  (aa:v'.ownBlock=none∨v'.ownBlock=(os.getD r undef).ownBlock∨ ∀g,v'.ownBlock=some g→W.heap.size≤g):CombS t total B bc bo bm n rv mv next m (qdA O r ys) (W1.setCell ⟨bo,r,none⟩ v') (os.set r v') dv:=by
 obtain⟨n1,n2,n3⟩:=h.ne1;have X: ∀(g:Nat) (c:Array Value) (T:TypeId),T≠5→W.heap[g]? =some (.cells c T (0,0))→W1.heap[g]? =some (.cells c T (0,0)):=fun g c T hT o=>(G.block g (Ai o).1 (fun e=>Y3 (h.row r hr) o hT g e rfl)).trans o
 have D:=X _ _ _ (by decide) h.opn;have Y:=(But.refl bo W1).set r v';have ac:os.length=n:=h.len;have I: ∀q,(os.set r v').getD q undef=if r=q then v' else os.getD q undef:=fun q=>qhL _ _ _ _ _ (by omega)
 have ab: ∀q g,q≠r→(os.getD q undef).ownBlock=some g→W1.heap[g]? =W.heap[g]? :=fun q g J o=>G.block g (h.olt q g o).2 (fun e=>h.sep q r g J o e)
 refine⟨(Y.block bc (by have:=G.size;have:=(Ai h.box).1;omega) n1).trans (X _ _ _ (by decide) h.box),?_,by rw[List.length_set];exact ac,(Y.block bm (by have:=G.size;have:=(Ai h.mad).1;omega) (Ne.symm n3)).trans (X _ _ _ (by decide) h.mad),fun q J=>?_,fun q J=>?_,fun q s g U o=>?_,h.base⟩
 ·rw[←List.setIfInBounds_toArray];exact block_setCell D _
 ·rw[I];unfold qdA;by_cases e:q=r
  ·subst e;rw[if_pos rfl,if_pos rfl];exact QZ ho (fun g o=>Y.block g (Qf ho g o) (Y3 ho D (by decide) g o))
  ·rw[if_neg e,if_neg (fun x=>e x.symm)];have h1:=QZ (h.row q J) (fun g o=>ab q g e o);exact QZ h1 (fun g o=>Y.block g (Qf h1 g o) (Y3 h1 D (by decide) g o))
 ·unfold qdA;by_cases e:q=r
  ·rw[if_pos e];exact hy
  ·rw[if_neg e];exact h.byt q J
 ·rw[I]at o⊢;by_cases V:r=q
  ·rw[if_pos V]at o;rw[if_neg (fun Z=>U (V.symm.trans Z))];rcases aa with k|k|k
   ·rw[k]at o;cases o
   ·rw[k]at o;exact h.sep r s g (fun e=>U (V.symm.trans e)) o
   ·exact fun e=>by have:=(h.olt s g e).2;have:=k g o;omega
  ·rw[if_neg V]at o;by_cases Z:r=s
   ·rw[if_pos Z];rcases aa with k|k|k
    ·rw[k];exact fun e=>by cases e
    ·rw[k];exact h.sep q r g (fun e=>V e.symm) o
    ·exact fun e=>by have:=(h.olt q g o).2;have:=k g e;omega
   ·rw[if_neg Z];exact h.sep q s g U o
end CombS
end Go.Proofs.YthjoojnlnlmljaaGreat
namespace Go.Proofs.YthjoojnlnlmljaaGreat
open Go.ChangeShapes Go.WideShapes Go.ChangeAt Go.RowKit Go.Joins Go.Shelf Go.Maps
open Go.Lib (hid)
attribute [local go_sem] Oper.semAt_some
theorem jd {t:TreeV}(h:t.validE=0)(kz z1 z2:List Int){L0:List (List Int)}(q:L0≠[])(D: ∀z∈L0,z.length≤64)(total r i m:Nat):(t.segC kz z1 z2 L0 total r i m).length≤64*(t.lvlZ kz z1 z2 L0 r).length:=by
 unfold TreeV.segC;have G:=(QM h kz z1 z2 q D r).2.2;have I:=yZ (L:=((t.lvlZ kz z1 z2 L0 r).drop (t.frC total r i)).take (m - t.frC total r i)) (fun z o=>G z (List.mem_of_mem_drop (List.mem_of_mem_take o)));have J:(((t.lvlZ kz z1 z2 L0 r).drop (t.frC total r i)).take (m - t.frC total r i)).length≤(t.lvlZ kz z1 z2 L0 r).length:=by rw[List.length_take,List.length_drop];omega
 omega
def SumAt (B:Nat)(W:World)(v:Value)(Z:List Int):Prop:=(Hold W v Z∧ ∀b,v.ownBlock=some b→b<B)∨OwnB B W v Z
theorem SumAt.hold {B:Nat}{W:World}{v:Value}{Z:List Int}(h:SumAt B W v Z):Hold W v Z:=by
 rcases h with h|h
 ·exact h.1
 ·exact h.hold
theorem SumAt.but {B g:Nat}{W W':World}{v:Value}{Z:List Int}{c:Array Value}{T:TypeId}{fr:Nat×Nat}(h:SumAt B W v Z)(o:But g W W')(I:W.heap[g]? =some (.cells c T fr))(G:T≠5)(J:B≤g):SumAt B W' v Z:=by
 rcases h with h|h
 ·exact .inl ⟨h.1.keep o.size fun b q D=>o.block b D (by have:=h.2 b q;omega),h.2⟩
 ·exact .inr (h.kb (b:=0) (KB.of_but o (Nat.zero_le _) (Nat.zero_le _) I G))
def GrowB (B M:Nat)(v:Value)(ys:List Int)(u:Value)(W:World):Prop:=W.ownsRow B 5 1 u ys.length (ys.map qt)∧(u.ownBlock=v.ownBlock∨ ∀g,u.ownBlock=some g→M≤g)
theorem GrowB.below {B M:Nat}{v u:Value}{ys:List Int}{W W':World}(h:GrowB B M v ys u W)(o:Below W.heap.size W W'):GrowB B M v ys u W':=⟨QZ h.1 (fun g q=>o.block g (Qf h.1 g q)),h.2⟩
def NewAt (M:Nat)(T:TypeId)(n:Nat)(v:Value)(W:World):Prop:= ∃q c,v= .pointer (some ⟨q,0,none⟩)∧M≤q∧W.heap[q]? =some (.cells c T (0,0))∧c.size=n
theorem NewAt.below {M n:Nat}{T:TypeId}{v:Value}{W W':World}(h:NewAt M T n v W)(D:Below W.heap.size W W'):NewAt M T n v W':=by
 obtain⟨q,c,e,I,o,G⟩:=h;exact⟨q,c,e,I,qg o D,G⟩
theorem NewAt.setRow {M n p:Nat}{T:TypeId}{v:Value}{W:World}{c:Array Value}(h:NewAt M T n v W)(U:W.heap[p]? =some (.cells c T (0,0)))(d:Array Value)(J:d.size=n):NewAt M T n v (W.setRow p d):=by
 obtain⟨q,I,e,D,G,V⟩:=h;by_cases o:q=p
 ·subst o;exact⟨q,d,e,D,setRow_heap _ _ _ _ _ _ U,J⟩
 ·exact⟨q,I,e,D,(setRow_other _ _ _ _ o).trans G,V⟩
theorem qbE (t:TreeV)(total:Nat)(rv mv:Value)(next:Int)(n bo bm:Nat)(dv:Value){j:Nat}(o:j<9):(JL t total rv mv next n bo bm dv)[0+j]? =(#[.int .i64 t.k,.int .i64 t.d,.int .i64 t.f,.int .i64 t.p,.int .u32 t.l,.int .i64 t.i,.slice t.ka t.kl t.kc,.slice t.sa t.sl t.sc,.slice t.pa t.pl t.pc]:Array Value)[j]? :=by
 rcases j with _|_|_|_|_|_|_|_|_|j
 all_goals first|rfl|omega
def qi0 (t:TreeV)(kz z1 z2:List Int)(total:Nat)(L0:List (List Int))(B bc bo bm:Nat)(rv mv:Value)(next:Int)(row:Nat)(m:Nat→Nat)(O:Nat→List Int)(W:World)(e:Ending)(W':World):Prop:=
 e= .returned (.tuple #[])∧Below B W W'∧MapK W W'∧ ∃m' O' os' dv',CombS t total B bc bo bm ((t.rowsOf total).length+1) rv mv next m' O' W' os' dv'∧(∀r,r<row→m' r=m r)∧(∀r,r≤row→O' r=O r)∧
  ((m row+1<nth (t.rowsOf total) row∧dv'= .slice none 0 0∧m' row=m row+1∧qh8 t total row m'∧ ∀r,row≤r→r+1<(t.rowsOf total).length→O' (r+1)=t.segC kz z1 z2 L0 total r (m' (r+1)) (m' r))∨
   (m row+1=nth (t.rowsOf total) row∧OwnB B W' dv' (qQ (t.lvlZ kz z1 z2 L0 ((t.rowsOf total).length - 1)) 0)))
theorem up_ok (t:TreeV)(kz z1 z2:List Int)(total:Nat)(ht:(total:Int)≤18446744073709551615)(he:t.err total=0)(L0:List (List Int))(h0:L0.length=lvs total t.ln)(h1: ∀z∈L0,z.length≤64)(hN: ∀r,nth (t.rowsOf total) r≤1048576)(B bc bo bm:Nat)(ra:Option Addr)(rc:Nat)(mv:Value)(next:Int)(w0:World)(dA:w0.heap.size=B)(hT:TreeOk t kz z1 z2 w0)(dL:mv.oneCell'=true):
 ∀(d row:Nat),row+d+1=(t.rowsOf total).length→ ∀(m:Nat→Nat) (O:Nat→List Int) (os:List Value) (W:World) (sa:Option Addr) (sc:Nat) (Z:List Int),Below B w0 W→CombS t total B bc bo bm ((t.rowsOf total).length+1) (.slice ra (t.rowsOf total).length rc) mv next m O W os (.slice none 0 0)→qh8 t total row m→(∀r,row≤r→r+1<(t.rowsOf total).length→O (r+1)=t.segC kz z1 z2 L0 total r (m (r+1)) (m r))→m row<nth (t.rowsOf total) row→Z=qQ (t.lvlZ kz z1 z2 L0 row) (m row)→SumAt B W (.slice sa Z.length sc) Z→(d=0→OwnB B W (.slice sa Z.length sc) Z)→
 Calls Tryz.prog 117 #[.pointer (some ⟨bc,0,none⟩),.int .i64 (row:Nat),.slice sa Z.length sc] W (qi0 t kz z1 z2 total L0 B bc bo bm (.slice ra (t.rowsOf total).length rc) mv next row m O W):=by
 have G:=qM he;have dG:(t.rowsOf total).length≤255:=by have:=G.most;have:=(qq (qW he)).2.2.2.2.2.2.2.1;unfold TreeV.pn at*;omega
 have cE:((t.rowsOf total).length:Int)≤255:=by omega
 intro d;induction d with
 | zero=>
  intro row an m O os W sa sc Z hW hC hI hO hm hZ hH aD;have hc:W.heap[bc]? =some (.cells (JL t total (.slice ra (t.rowsOf total).length rc) mv next ((t.rowsOf total).length+1) bo bm (.slice none 0 0)) 149 (0,0)):=hC.box;have ay:=G.last;rw[show(t.rowsOf total).length - 1=row by omega]at ay;have cw:m row=0:=by omega
  have HC:=hid hC;have HO:=hid (aD rfl);have HZ:=hid hZ;have ct:W.cell? ⟨bc,10,none⟩=some (.slice ra (t.rowsOf total).length rc):=qd hc 10;have dN:W.cell? ⟨bc,15,none⟩=some (.slice none 0 0):=qd hc 15;have dJ:=frozen_of_row W bc 15 _ _ hc;have cU:bc<W.heap.size:=(Ai hc).1;have HL:=hid ay;have b7:=hid cw;have J:=hid an;have bS:((row:Int)==((t.rowsOf total).length:Int) - 1)=true:=by rw[beq_iff_eq];omega
  have bw:IntKind.i64.wrap (((t.rowsOf total).length:Int) - 1)=((t.rowsOf total).length:Int) - 1:=by rw[IntKind.wrap_i64]<;>omega
  have bX:=hid hc;clear hC hI hO hm hZ hH aD ay cw hW G hN an hc;go_enter Tryz.func117,Tryz.ntmps117
  go_wp2_with fail
  have ah:=(But.refl bc W).set 15 (.slice sa Z.length sc);have hx:(W.setCell ⟨bc,15,none⟩ (.slice sa Z.length sc)).heap[bc]? =some (.cells (JL t total (.slice ra (t.rowsOf total).length rc) mv next ((t.rowsOf total).length+1) bo bm (.slice sa Z.length sc)) 149 (0,0)):=block_setCell bX.out _;have dy:OwnB B (W.setCell ⟨bc,15,none⟩ (.slice sa Z.length sc)) (.slice sa Z.length sc) Z:=HO.out.kb (b:=0) (KB.of_but ah (Nat.zero_le _) (Nat.zero_le _) bX.out (by decide));have dt:Below B W (W.setCell ⟨bc,15,none⟩ (.slice sa Z.length sc)):=(Below.refl B W).setCell HC.out.base.1 _;have a3:=MapK.of_but ah bX.out;have a5:=HC.out.setBox ah hx;refine bodyPost_end (results_none rfl _ _ _) rfl ⟨rfl,dt,a3,m,O,os,_,a5,fun _ _=>rfl,fun _ _=>rfl,.inr ⟨by have:=HL.out;have:=b7.out;omega,?_⟩⟩;rw[show(t.rowsOf total).length - 1=row by have:=J.out;omega,←b7.out,←HZ.out];exact dy
 | succ d ih=>
  intro row an m O os W sa sc Z hW hC hI hO hm hZ hH aD;have ar:=qiV hT.l he kz z1 z2 h0 h1 (r:=row) (i:=m (row+1)) (by omega) (hI row Nl (by omega)).1;obtain⟨au,aF,bh⟩:=hI row Nl (by omega);have cM:=hO row Nl (by omega);have b6:=Q4 he kz z1 z2 h0 h1 row (by omega);have ad:=qaP (t:=t) (kz:=kz) (z1:=z1) (z2:=z2) (L0:=L0) (total:=total) (r:=row) (i:=m (row+1)) aF (by omega);rw[←cM,←hZ]at ad;have bi:=jd (qW he) kz z1 z2 (L0:=L0) (by intro e;rw[e]at h0;unfold lvs at h0;simp at h0;omega) h1 total row (m (row+1)) (m row+1);have c8:(t.lvlZ kz z1 z2 L0 row).length≤1048576:=by rw[b6];exact hN row
  obtain⟨k,hk⟩:=Ex (m (row+1));obtain⟨i,hi⟩:=Ex (m row);rw[hk]at au aF bh ar ad bi;rw[hi]at aF bh ad hm bi;have cj:(O (row+1)).length+Z.length≤67108864:=by
   rw[ad,List.length_append]at bi;omega
  have cB:(k:Int)<1048576:=by have:=hN (row+1);omega
  have cu:(i:Int)<1048576:=by have:=hN row;omega
  have cN:(row:Int)+1≤255:=by omega
  have hc:=hC.box;have al:=hC.row (row+1) (by omega);obtain⟨oa,oc,eo⟩:=ZW al;have HC:=hid hC;have HI:=hid hI;have HO:=hid hO;have HZ:=hid hZ;have aq:=hid ar;have cY:=hid ad;have HW:=hid hW;have HH:=hid hH;have HK:=hid hk;have aJ:=hid hi;have bj:=hid au;have dB:=hid aF;have dg:=hid bh;have HM:=hid hm;have J:=hid an;have c7:=hid cj;have bk:=hid eo;have ct:W.cell? ⟨bc,10,none⟩=some (.slice ra (t.rowsOf total).length rc):=qd hc 10;have dl:W.cell? ⟨bc,14,none⟩=some (.slice (some ⟨bm,0,none⟩) ((t.rowsOf total).length+1) ((t.rowsOf total).length+1)):=qd hc 14;have cm:W.cell? ⟨bm,row,none⟩=some (.int .u64 (i:Nat)):=by rw[←hi];exact(qd hC.mad row).trans (qbr (by omega))
  have fm:=frozen_of_row W bm row _ _ hC.mad;have cU:bc<W.heap.size:=(Ai hc).1;have dH:bm<W.heap.size:=(Ai hC.mad).1;have bS:((row:Int)==((t.rowsOf total).length:Int) - 1)=false:=by rw[beq_eq_false_iff_ne];omega
  have bw:IntKind.i64.wrap (((t.rowsOf total).length:Int) - 1)=((t.rowsOf total).length:Int) - 1:=by rw[IntKind.wrap_i64]<;>omega
  have cz:IntKind.u64.wrap ((i:Int)+1)=(i:Int)+1:=u64_wrap_id _ (by omega) (by omega);have dj:IntKind.i64.wrap ((row:Int)+1)=(row:Int)+1:=by rw[IntKind.wrap_i64]<;>omega
  have cC:(row:Int)<((t.rowsOf total).length:Int):=by omega
  have aL:(row:Int)+1<((t.rowsOf total).length:Int):=by omega
  clear hC hI hO hm hZ hH aD hW G an hc ar hk hi au aF bh al eo cM b6 ad bi c8 cj;go_enter Tryz.func117,Tryz.ntmps117
  go_upto_region 3 with(fail)
  refine qm ?_;intro W1 av;have b8:CombS t total B bc bo bm ((t.rowsOf total).length+1) (.slice ra (t.rowsOf total).length rc) mv next (qdz m row (i+1)) O W1 os (.slice none 0 0):=by rw[av];exact HC.out.setMade row (i+1)
  have cc:Below B W W1:=by rw[av];exact(Below.refl B W).setCell HC.out.base.2.2 _
  have au:MapK W W1:=by rw[av];exact MapK.of_but ((But.refl bm W).set row _) HC.out.mad
  have c4:W1.heap.size=W.heap.size:=by rw[av];simp[World.setCell]
  have ca:Hold W1 (.slice sa Z.length sc) Z:=by rw[av];exact(HH.out.but ((But.refl bm W).set row _) HC.out.mad (by decide) HC.out.base.2.2).hold
  have X:=hid b8;have cv:=hid cc;have bU:=hid au;have b0:=hid ca;clear av b8 cc au ca ct dl cm fm;have br:=X.out.box;have bv:=bk.out;have cx:W1.cell? ⟨bc,13,none⟩=some (.slice (some ⟨bo,0,none⟩) ((t.rowsOf total).length+1) ((t.rowsOf total).length+1)):=qd br 13;have co:W1.cell? ⟨bo,row+1,none⟩=some (.slice oa (O (row+1)).length oc):=by
   rw[←bv,qd X.out.opn (row+1)];have:=X.out.len
   simp only[List.getElem?_toArray];rw[Lg,List.getElem?_eq_getElem (by have:=J.out;omega)];rfl
  have aC:bc<W1.heap.size:=(Ai br).1;have aA:bo<W1.heap.size:=(Ai X.out.opn).1;have df:B≤W1.heap.size:=by have:=X.out.base.1;omega
  obtain⟨i0,dD,bK,bA,bT⟩:=info_parts QD;have bg:W1.ownsRow B 5 1 (.slice oa (O (row+1)).length oc) (O (row+1)).length ((O (row+1)).map qt):=by rw[←bv];exact X.out.row (row+1) (by have:=J.out;omega)
  have af:=hid bg;have c0:=c7.out;clear bg bv;have bf: ∀(W:World) (f:Bool),((f=false→Below W1.heap.size W1 W)∧(f=true→Spare (fun k=>(Value.slice oa (O (row+1)).length oc).ownBlock≠some k) W1 W))→W.heap[bc]? =W1.heap[bc]? ∧W.heap[bo]? =W1.heap[bo]? ∧W1.heap.size≤W.heap.size:=fun W f G=>by
   cases f
   ·exact⟨(G.1 rfl).block bc aC,(G.1 rfl).block bo aA,(G.1 rfl).size⟩
   ·exact⟨(G.2 rfl).block bc aC (fun e=>Y3 af.out X.out.box (by decide) bc e rfl),(G.2 rfl).block bo aA (fun e=>Y3 af.out X.out.opn (by decide) bo e rfl),(G.2 rfl).size⟩
  refine Jg (n:=16) (fun f W=>(f=false→Below W1.heap.size W1 W)∧(f=true→Spare (fun k=>(Value.slice oa (O (row+1)).length oc).ownBlock≠some k) W1 W)) 15 [.v 31 (.pointer (some ⟨bc,0,none⟩)),.v 32 (.pointer (some ⟨bc,0,none⟩)),.v 33 (.pointer (some ⟨bc,13,none⟩)),.v 34 (.slice (some ⟨bo,0,none⟩) ((t.rowsOf total).length+1) ((t.rowsOf total).length+1)),.v 35 (.int .i64 (row:Nat)),.v 36 (.int .i64 ((row:Int)+1)),.v 37 (.pointer (some ⟨bc,0,none⟩)),.v 38 (.pointer (some ⟨bc,0,none⟩)),.v 39 (.pointer (some ⟨bc,13,none⟩)),.v 40 (.slice (some ⟨bo,0,none⟩) ((t.rowsOf total).length+1) ((t.rowsOf total).length+1)),.v 41 (.int .i64 (row:Nat)),.v 42 (.int .i64 ((row:Int)+1)),.v 43 (.pointer (some ⟨bo,row+1,none⟩)),.v 44 (.slice oa (O (row+1)).length oc),.v 45 (.slice sa Z.length sc),.p 46 (GrowB B W1.heap.size (.slice oa (O (row+1)).length oc) (O (row+1)++Z))] (by exact⟨(fun _ _ hb _ h=>GrowB.below h hb),trivial⟩) ⟨fun _=>Br.drew,fun h=>(by cases h)⟩ (fun f W W' h hb=>⟨fun e=>(h.1 e).trans (hb.mono (h.1 e).size),fun e=>(h.2 e).trans (Spare.of_below _ hb) (fun _ _ h=>h)⟩) ?_ ?_ ?_
  ·repeat' (with_reducible first|exact qz|refine qx ?_ ?_)
   all_goals try
    refine .inr ?_;intro A x W f' D G hf be hx o DD K Y;obtain⟨cn,ci,dK⟩:=bf W f' G;have a0:=D.2 0 (by decide);conv at a0=>rhs;whnf
    have a1:=D.2 1 (by decide);conv at a1=>rhs;whnf
    have a2:=D.2 2 (by decide);conv at a2=>rhs;whnf
    have y0:=(World.cell?_of_block (a:=⟨bc,13,none⟩) cn).trans cx;have y1:=(World.cell?_of_block (a:=⟨bo,row+1,none⟩) ci).trans co;have y3:bc<W.heap.size:=by omega
    have y4:bo<W.heap.size:=by omega
    clear cn ci;simp only[QN,QV]at DD;clear o D;go_simp
    exact Y _ _ BR rfl
   any_goals exact .inl rfl
  ·intro A x W D G hx o K Y;have g1:=gw D o 13 44;have g2:=gw D o 14 45;clear o D;have hB:=G.1 rfl;have ho:=QZ af.out (fun g hg=>hB.block g (Qf af.out g hg));refine Yo _ _ 24 rfl B 5 i0 (.int .u8 0) 1 Tryz.underlying24 dD bK bA bT rfl (.slice oa (O (row+1)).length oc) (O (row+1)).length ((O (row+1)).map qt) g1 ho (.slice sa Z.length sc) Z.length (Z.map qt) g2 ((b0.out.below hB).src) (by unfold maxLen;omega) (by omega) (by have:=hB.size;omega) ?_;intro v' w' k1 k2 k3;rw[←List.map_append]at k1;refine Y v' w' (fun h=>by cases h) ⟨fun h=>(by cases h),fun _=>(Spare.of_below _ hB).trans (Spare.of_grown k2) (fun _ _ h=>h)⟩ ⟨.inr (.inr (fun _ h=>h)),.inr (.inr (fun _ h=>h)),.inr (.inr (fun _ h=>h)),.inr (.inr (fun _ h=>h)),.inr (.inr (fun _ h=>h)),.inr (.inr (fun _ h=>h)),.inr (.inr (fun _ h=>h)),.inr (.inr (fun _ h=>h)),.inr (.inr (fun _ h=>h)),.inr (.inr (fun _ h=>h)),.inr (.inr (fun _ h=>h)),.inr (.inr (fun _ h=>h)),.inr (.inr (fun _ h=>h)),.inr (.inr (fun _ h=>h)),.inr (.inr (fun _ h=>h)),.inl rfl,trivial⟩ ⟨by rw[List.length_append];exact k1,?_⟩;rcases k3 with k3|k3
   ·exact .inl k3
   ·refine .inr fun g hg=>?_
    rw[k3]at hg;cases hg;exact hB.size
  intro x W2 G ak;obtain⟨b9, -⟩:=ak;change GrowB B W1.heap.size (.slice oa (O (row+1)).length oc) (O (row+1)++Z) (x 46) W2 at b9
  obtain⟨aY,aS⟩:=b9;have ac:=G.2 rfl;obtain⟨na,nc,eN⟩:=ZW aY;rw[eN]at aY aS;have bN: ∀(g:Nat) (c:Array Value) (T:TypeId),T≠5→W1.heap[g]? =some (.cells c T (0,0))→W2.heap[g]? =some (.cells c T (0,0)):=fun g c T hT hg=>(ac.block g (Ai hg).1 (fun e=>Y3 af.out hg hT g e rfl)).trans hg
  have aj:=bN _ _ _ (by decide) X.out.opn;have fz:=frozen_of_row W2 bo (row+1) _ _ aj;have n0:W2.cell? ⟨bo,row+1,none⟩=some (.slice oa (O (row+1)).length oc):=(World.cell?_of_block (a:=⟨bo,row+1,none⟩) (aj.trans X.out.opn.symm)).trans co;have b4:bo<W2.heap.size:=(Ai aj).1;have am:=X.out.setOpen (r:=row+1) (v':= .slice na (O (row+1)++Z).length nc) (ys:=O (row+1)++Z) (W1:=W2) (by have:=J.out;omega) (by rw[bk.out];exact ac) aY (fun z hz=>by
   rcases List.mem_append.1 hz with hz|hz
   ·exact X.out.byt (row+1) (by have:=J.out;omega) z hz
   ·exact b0.out.1 z hz) (.inr (by rw[bk.out];exact aS))
  have cI:Below B W1 W2:=⟨ac.os,ac.tape,ac.output,ac.size,fun k hk=>ac.block k (by omega) (fun e=>by have:=Ju af.out k e;omega)⟩;have bP:=qb8 af.out ac;have I:=hid am;have aI:=hid (cv.out.trans (cI.setCell HC.out.base.2.1 _:Below B W1 (W2.setCell ⟨bo,row+1,none⟩ (.slice na (O (row+1)++Z).length nc))));have ao:=hid (bU.out.trans (bP.trans (MapK.of_but ((But.refl bo W2).set (row+1) (.slice na (O (row+1)++Z).length nc)) aj)));refine qp ?_;simp only[QA,Act.put,Ls,eN];clear aY aS ac bN aj am cI bP eN G cx co br;go_wp2_with fail
  refine qp ?_;go_wp2_with fail
  refine qv ?_;rw[List.length_append]at I aI ao;generalize W2.setCell ⟨bo,row+1,none⟩ (.slice na ((O (row+1)).length+Z.length) nc)=W3 at*;replace I:Hid (CombS t total B bc bo bm ((t.rowsOf total).length+1) (.slice ra (t.rowsOf total).length rc) mv next (qdz m row (i+1)) (qdA O (row+1) (O (row+1)++Z)) W3 (os.set (row+1) (.slice na ((O (row+1)).length+Z.length) nc)) (.slice none 0 0)):=I
  replace aI:Hid (Below B W W3):=aI
  replace ao:Hid (MapK W W3):=ao
  obtain⟨m1,aK⟩:=Ex (qdz m row (i+1));obtain⟨O1,aX⟩:=Ex (qdA O (row+1) (O (row+1)++Z));obtain⟨cO,bW⟩:=Ex (os.set (row+1) (.slice na ((O (row+1)).length+Z.length) nc));rw[aK,aX,bW]at I;have ap:=hid aK;have aZ:=hid aX;have b3:m1 row=i+1:=by rw[←aK];exact qga _ _ _
  have bC:m1 (row+1)=k:=by rw[←aK,QX (by omega)];exact HK.out
  have bE:O1 (row+1)=t.segC kz z1 z2 L0 total row k (i+1):=by rw[←aX,qca];exact cY.out.symm
  have ai:=hid b3;have ab:=hid bC;have aO:=hid bE;clear aK aX bW b3 bC bE X cv bU b0 af bf bk fz n0 b4 aC aA df c4 c0;clear W2 W1;have aa:=I.out.box;have de:W3.cell? ⟨bc,14,none⟩=some (.slice (some ⟨bm,0,none⟩) ((t.rowsOf total).length+1) ((t.rowsOf total).length+1)):=qd aa 14;have em:W3.cell? ⟨bm,row+1,none⟩=some (.int .u64 (k:Nat)):=by rw[←ab.out];exact(qd I.out.mad (row+1)).trans (qbr (by have:=J.out;omega))
  have e9:W3.cell? ⟨bc,9,none⟩=some (.int .u64 (total:Nat)):=qd aa 9;have aB:bc<W3.heap.size:=(Ai aa).1;have cT:bm<W3.heap.size:=(Ai I.out.mad).1;have ax:B≤W3.heap.size:=by have:=I.out.base.1;omega
  have ar:=aq.out.spot;obtain⟨aM,bO⟩:=qdF he (k:=row+1) (at_:=k) (by have:=J.out;omega) bj.out;have aN:t.spotR total ((row+1:Nat):Int) k=⟨row+1,k,t.frC total row k,t.toC total row k,t.laC total row k,decide (row+2=(t.rowsOf total).length)⟩:=by rw[bO];exact ar
  have bD:=hid aN;have cR:=hid aM;have ae:=fun(W:World)=>qdG t hT.l total ht ((row+1:Nat):Int) k W
  rw[aN,aM]at ae;unfold SpotV.val at ae;simp only at ae
  rw[show((row+1:Nat):Int)=(row:Int)+1 by omega]at ae;have ba:=hid ae;obtain⟨F,hF⟩:=Ex (t.frC total row k);obtain⟨T,a8⟩:=Ex (t.toC total row k);obtain⟨la,bs⟩:=Ex (t.laC total row k);obtain⟨rt,bF⟩: ∃rt,decide (row+2=(t.rowsOf total).length)=rt:=⟨_,rfl⟩;rw[hF,a8,bs,bF]at ba bD;have bx:=aq.out.le;rw[a8]at bx;have cA:(T:Int)≤1048576:=by have:=hN row;omega
  have aH:=hid a8;have dq:=hid bs;have dF:=hid bF;have dI:=hid hF;have bn:=hid (fun(W:World) (hW:Below W3.heap.size W3 W)=>qg aa hW);clear ar aM bO aN ae hF a8 bs bF bx aa;unfold TreeV.val at ba;go_upto_region 5 with(fail)
  refine Jg (n:=18) (fun f W=>Below W3.heap.size W3 W) 16 [.v 57 (.pointer (some ⟨bc,0,none⟩)),.v 58 (.pointer (some ⟨bc,0,none⟩)),.v 59 (.pointer (some ⟨bc,0,none⟩)),.v 60 (.agg #[.int .i64 t.k,.int .i64 t.d,.int .i64 t.f,.int .i64 t.p,.int .u32 t.l,.int .i64 t.i,.slice t.ka t.kl t.kc,.slice t.sa t.sl t.sc,.slice t.pa t.pl t.pc]),.v 61 (.pointer (some ⟨bc,0,none⟩)),.v 62 (.pointer (some ⟨bc,0,none⟩)),.v 63 (.pointer (some ⟨bc,9,none⟩)),.v 64 (.int .u64 (total:Nat)),.v 65 (.int .i64 (row:Nat)),.v 66 (.int .i64 ((row:Int)+1)),.v 67 (.int .u64 (k:Nat)),.v 68 (.tuple #[.agg #[.int .i64 ((row:Int)+1),.int .u64 (k:Nat),.int .u64 (F:Nat),.int .u64 (T:Nat),.bool la,.bool rt],.int .i64 0]),.v 56 (.tuple #[.agg #[.int .i64 ((row:Int)+1),.int .u64 (k:Nat),.int .u64 (F:Nat),.int .u64 (T:Nat),.bool la,.bool rt],.int .i64 0]),.v 69 (.agg #[.int .i64 ((row:Int)+1),.int .u64 (k:Nat),.int .u64 (F:Nat),.int .u64 (T:Nat),.bool la,.bool rt]),.v 70 (.int .i64 0),.p 7 (NewAt W3.heap.size 96 6),.f none [7] (fun l W=> ∃q,l=[.pointer (some ⟨q,0,none⟩)]∧W3.heap.size≤q∧W.heap[q]? =some (.cells #[.int .i64 ((row:Int)+1),.int .u64 (k:Nat),.int .u64 (F:Nat),.int .u64 (T:Nat),.bool la,.bool rt] 96 (0,0))),.v 8 (.int .i64 0)] (by exact⟨(fun _ _ hb _ h=>NewAt.below h hb),(fun _ _ hb l h=>by obtain⟨q,e,h1,h2⟩:=h;exact⟨q,e,h1,qg h2 hb⟩),trivial⟩) Br.drew (fun f W W' h hb=>h.trans (hb.mono h.size)) ?_ ?_ ?_
  ·repeat' (with_reducible first|exact qz|refine qx ?_ ?_)
   all_goals try
    refine .inr ?_;intro A x W f' D G hf be hx o DD K Y;have a0:=D.2 0 (by decide);conv at a0=>rhs;whnf
    have a1:=D.2 1 (by decide);conv at a1=>rhs;whnf
    have a6:=D.2 6 (by decide);conv at a6=>rhs;whnf
    have y0:=(G.cell (p:=⟨bc,9,none⟩) aB).trans e9;have y3:bc<W.heap.size:=by have:=G.size;omega
    simp only[QN,QV]at DD;clear o D;go_simp
    exact Y _ _ BR rfl
   any_goals exact .inl rfl
   all_goals refine .inr ?_
   ·intro A x W f' D G hf be hx o DD K Y;have g1:=gw D o 2 59;clear o D DD;exact qX 26 _ rfl bc 0 g1 149 _ #[.int .i64 t.k,.int .i64 t.d,.int .i64 t.f,.int .i64 t.p,.int .u32 t.l,.int .i64 t.i,.slice t.ka t.kl t.kc,.slice t.sa t.sl t.sc,.slice t.pa t.pl t.pc] (0,0) _ (bn.out W G) Tryz.underlying26 rfl (by kernel_rfl) (fun j hj=>qbE _ _ _ _ _ _ _ _ _ hj) (Y _ _ BR rfl)
   ·intro A x W f' D G hf be hx o DD K Y;have g1:=gw D o 3 60;have g2:=gw D o 7 64;have g3:=gw D o 9 66;have g4:=gw D o 10 67;clear o D DD;go_simp
    refine(ba.out W).mono ?_;rintro e w5 ⟨rfl,bR⟩;exact Y _ _ bR rfl
   ·intro A x W f' D G hf be hx o DD K Y;clear o D DD;go_simp
    exact Y _ _ (Br.alloc Nl _) ⟨W.heap.size,_,rfl,G.size,Wn W _,rfl⟩
  ·intro A x W D G hx o K Y;have g7:NewAt W3.heap.size 96 6 (x 7) W:=o ⟨15,.data⟩ (by simp) rfl;have a7:A.tmps.getD 7 undef=x 7:=D.1 7 (by decide);have c5:=gw D o 13 69;clear o D;obtain⟨p',c,e7,cD,bH,dE⟩:=g7;refine wp_store_row 96 _ _ rfl p' #[.int .i64 ((row:Int)+1),.int .u64 (k:Nat),.int .u64 (F:Nat),.int .u64 (T:Nat),.bool la,.bool rt] (a7.trans e7) c5 96 c bH (by kernel_rfl) (by rw[dE];rfl) (by simp[Value.oneCell']) ?_;exact Y _ _ (fun _=>rfl) (below_setRow G cD _) ⟨.inr (.inr (fun _ h=>h)),.inr (.inr (fun _ h=>h)),.inr (.inr (fun _ h=>h)),.inr (.inr (fun _ h=>h)),.inr (.inr (fun _ h=>h)),.inr (.inr (fun _ h=>h)),.inr (.inr (fun _ h=>h)),.inr (.inr (fun _ h=>h)),.inr (.inr (fun _ h=>h)),.inr (.inr (fun _ h=>h)),.inr (.inr (fun _ h=>h)),.inr (.inr (fun _ h=>h)),.inr (.inr (fun _ h=>h)),.inr (.inr (fun _ h=>h)),.inr (.inr (fun _ h=>h)),.inr (.inr (fun _ h=>NewAt.setRow h bH _ (by simp))),.inl rfl,.inr (.inl (by kernel_rfl)),trivial⟩ ⟨p',by rw[List.map_cons,List.map_nil,e7],cD,setRow_heap _ _ _ _ _ _ bH⟩
  intro x V G ak;obtain⟨e7,bp, -⟩:=ak;change NewAt W3.heap.size 96 6 (x 7) V at e7
  obtain⟨bq,cq,e7,du, -, -⟩:=e7;obtain⟨dM,bp,cP,aQ⟩:=bp;simp only[List.map_cons,List.map_nil,e7,List.cons.injEq,Value.pointer.injEq,Option.some.injEq,Addr.mk.injEq,and_true]at bp;obtain rfl:=bp;refine qv ?_;simp only[QA,Act.put,Ls,e7];have bl:=I.out.below G;have cG:=hid (aI.out.trans (G.mono ax));have b5:=hid (ao.out.trans (MapK.of_below G));have di:V.cell? ⟨bc,14,none⟩=some (.slice (some ⟨bm,0,none⟩) ((t.rowsOf total).length+1) ((t.rowsOf total).length+1)):=qd bl.box 14;have vm:V.cell? ⟨bm,row,none⟩=some (.int .u64 ((i:Int)+1)):=by
   have h8:V.cell? ⟨bm,row,none⟩=some (.int .u64 (m1 row:Nat)):=(qd bl.mad row).trans (qbr (by have:=J.out;omega));rw[ai.out]at h8;exact h8
  have vt:V.cell? ⟨bq,3,none⟩=some (.int .u64 (T:Nat)):=qd aQ 3;have cX:bc<V.heap.size:=by have:=G.size;omega
  have cS:bm<V.heap.size:=by have:=G.size;omega
  have cZ:bq<V.heap.size:=(Ai aQ).1;have cy:=hid bl;have bz:B≤V.heap.size:=by have:=G.size;omega
  clear bl G e7 aQ de em e9 aB cT ax bn ba I aI ao du cP;generalize x 7=x7;go_upto_region 6 with(fail)
  go_quiet (fail)
  go_upto_if 80 with(fail)
  refine qm ?_;intro V2 cf;have aG:Below V.heap.size V V2:=by rw[cf];exact below_draws _ _ _
  have bt:=hid (cy.out.below aG);have aT:=hid (cG.out.trans (aG.mono bz));have aU:=hid (b5.out.trans (MapK.of_below aG));have cW:B≤V2.heap.size:=by have:=aG.size;omega
  clear cf aG cy cG b5 di vm vt cX cS cZ bz;clear V;clear W3;by_cases bM:i+1<T
  case pos=>
   have cp:=hid bM;have hq:decide ((i:Int)+1<(T:Int))=true:=decide_eq_true (by omega);rw[hq];clear bM hq cN aL cB cu bw cz dj bS cC bK bA bT cA cE;go_wp2_with fail
   refine bodyPost_end (results_none rfl _ _ _) rfl ⟨rfl,aT.out,aU.out,m1,O1,cO,_,bt.out,fun r hr=>?_,fun r hr=>?_,.inl ⟨?_,rfl,?_,?_,?_⟩⟩
   ·rw[←ap.out];exact QX (by omega)
   ·rw[←aZ.out];exact YE (by omega)
   ·have h8:=aq.out.le;rw[aH.out]at h8;have:=aJ.out
    have:=cp.out
    omega
   ·rw[ai.out,aJ.out]
   ·intro r h8 h9;by_cases e:r=row
    ·subst e;rw[ab.out,ai.out];exact⟨bj.out,by have:=dB.out;omega,by rw[aH.out];have:=cp.out;omega⟩
    ·rw[←ap.out,QX (by omega),QX e];exact HI.out r h8 h9
   ·intro r h8 h9;by_cases e:r=row
    ·subst e;rw[ab.out,ai.out,aO.out]
    ·rw[←ap.out,←aZ.out,QX (by omega),QX e,YE (by omega)];exact HO.out r h8 h9
  have bJ:T=i+1:=by have:=dg.out;rw[aH.out]at this;omega
  have cd:=hid bJ;have aE:decide ((i:Int)+1<(T:Int))=false:=decide_eq_false (by omega);rw[aE];clear aE bM bJ cA;have U:=bt.out;have al:=U.row (row+1) (by have:=J.out;omega);obtain⟨da,dc,eD⟩:=ZW al;have dw:V2.cell? ⟨bc,13,none⟩=some (.slice (some ⟨bo,0,none⟩) ((t.rowsOf total).length+1) ((t.rowsOf total).length+1)):=qd U.box 13;have vo:V2.cell? ⟨bo,row+1,none⟩=some (.slice da (O1 (row+1)).length dc):=by
   rw[←eD,qd U.opn (row+1)];have:=U.len
   simp only[List.getElem?_toArray];rw[Lg,List.getElem?_eq_getElem (by have:=J.out;omega)];rfl
  have fo:=frozen_of_row V2 bo (row+1) _ _ U.opn;have cQ:bc<V2.heap.size:=(Ai U.box).1;have cV:bo<V2.heap.size:=(Ai U.opn).1;have am:=U.setOpen (r:=row+1) (v':= .slice none 0 0) (ys:=[]) (W1:=V2) (by have:=J.out;omega) (Spare.refl _ _) (Wo _ _ _ _) (fun z hz=>by cases hz) (.inl rfl);have ah:=(But.refl bo V2).set (row+1) (.slice none 0 0);have ck:OwnB B (V2.setCell ⟨bo,row+1,none⟩ (.slice none 0 0)) (.slice da (O1 (row+1)).length dc) (O1 (row+1)):=by
   rw[eD]at al;exact OwnB.kb (b:=0) ⟨U.byt (row+1) (by have:=J.out;omega),Y6 al⟩ (KB.of_but ah (Nat.zero_le _) (Nat.zero_le _) U.opn (by decide))
  have I:=hid am;have cb:=hid ck;have bG:=hid (aT.out.trans ((Below.refl B V2).setCell U.base.2.1 _:Below B V2 (V2.setCell ⟨bo,row+1,none⟩ (.slice none 0 0))));have dx:=hid (aU.out.trans (MapK.of_but ah U.opn));clear U al am ck ah eD bt aT aU cW cN aL cB cu bw cz bS cC bK bA bT cE;have aL:(row:Int)+1<((t.rowsOf total).length:Int):=by have:=J.out;omega
  obtain⟨Dz,a4⟩:=Ex (O1 (row+1));rw[a4]at cb vo;have c9:=hid a4;obtain⟨O2,bQ⟩:=Ex (qdA O1 (row+1) []);obtain⟨dz,bV⟩:=Ex (cO.set (row+1) (.slice none 0 0));rw[bQ,bV]at I;have bZ:=hid bQ;have ch:Dz.length≤1073741824:=by
   rw[←a4,aO.out];have h8:=jd (qW he) kz z1 z2 (L0:=L0) (by intro e;rw[e]at h0;unfold lvs at h0;simp at h0;omega) h1 total row k (i+1);have h9:=Q4 he kz z1 z2 h0 h1 row (by have:=J.out;omega);have:=hN row
   omega
  have dr:=hid ch;clear a4 bQ bV ch;go_upto_region 9 with(fail)
  generalize V2.setCell ⟨bo,row+1,none⟩ (.slice none 0 0)=V3 at*;clear dw vo fo cQ cV;clear V2;have aa:=I.out.box;have e9:V3.cell? ⟨bc,9,none⟩=some (.int .u64 (total:Nat)):=qd aa 9;have aB:bc<V3.heap.size:=(Ai aa).1;have ax:B≤V3.heap.size:=by have:=I.out.base.1;omega
  have c3:row+1≤255:=by have:=J.out;omega
  obtain⟨hP, -⟩:=qds hT.l ht he (row:=row+1) (at_:=k) (by have:=J.out;omega) bj.out;have az:=fun(W:World) (hW:Below V3.heap.size V3 W)=>qdU t kz z1 z2 Dz total ht (row+1) k F T (by omega) la rt da dc W (hT.below (by rw[dA];exact HW.out.trans (bG.out.trans (hW.mono ax)))) hP c3 cR.out bD.out (cb.out.hold.below hW) dr.out
  obtain⟨NZ,bI⟩:=Ex (t.node kz z1 z2 (row+1) k la rt Dz);simp only[bI,show((row+1:Nat):Int)=(row:Int)+1 by omega]at az;have bL:NZ=qQ (t.lvlZ kz z1 z2 L0 (row+1)) (m1 (row+1)):=by
   rw[ab.out,aq.out.node,dq.out,dF.out,aH.out,←bI,←c9.out,aO.out,cd.out]
  have ce:=hid az;have bu:=fun(W:World) (aW:Option Addr) (aV:Nat) (hW:Below V3.heap.size V3 W) (hz:OwnB B W (.slice aW NZ.length aV) NZ)=>ih (row+1) (by have:=J.out;omega) m1 O2 dz W aW aV NZ (HW.out.trans (bG.out.trans (hW.mono ax))) (I.out.below hW) (fun r h8 h9=>by
    rw[←ap.out,QX (by omega),QX (by omega)];exact HI.out r (by omega) h9) (fun r h8 h9=>by
    rw[←bZ.out,←aZ.out,YE (by omega),YE (by omega),←ap.out,QX (by omega),QX (by omega)];exact HO.out r (by omega) h9) (by rw[ab.out];exact bj.out) bL (.inr hz) (fun _=>hz)
  simp only[show((row+1:Nat):Int)=(row:Int)+1 by omega]at bu;have dn:=hid bu;have bn:=hid (fun(W:World) (hW:Below V3.heap.size V3 W)=>qg aa hW);clear bu az bI bL hP ih aa;unfold TreeV.val at ce;refine qD (n:=16) (w0:=V3) (B:=V3.heap.size) [.v 96 (.pointer (some ⟨bc,0,none⟩)),.v 97 (.int .i64 (row:Nat)),.v 98 (.int .i64 ((row:Int)+1)),.v 99 (.pointer (some ⟨bc,0,none⟩)),.v 100 (.pointer (some ⟨bc,0,none⟩)),.v 101 (.pointer (some ⟨bc,0,none⟩)),.v 102 (.agg #[.int .i64 t.k,.int .i64 t.d,.int .i64 t.f,.int .i64 t.p,.int .u32 t.l,.int .i64 t.i,.slice t.ka t.kl t.kc,.slice t.sa t.sl t.sc,.slice t.pa t.pl t.pc]),.v 103 (.pointer (some ⟨bc,0,none⟩)),.v 104 (.pointer (some ⟨bc,0,none⟩)),.v 105 (.pointer (some ⟨bc,9,none⟩)),.v 106 (.int .u64 (total:Nat)),.v 107 (.int .i64 (row:Nat)),.v 108 (.int .i64 ((row:Int)+1)),.v 109 (.int .u64 (k:Nat)),.v 110 (.slice da Dz.length dc),.p 111 (fun v W=>OwnB B W v NZ)] (by exact⟨(fun _ _ _ h hb=>OwnB.kb h (KB.of_below hb (Nat.zero_le _))),trivial⟩) Br.drew Nl ?_ ?_
  ·repeat' (with_reducible first|exact qz|refine qx ?_ ?_)
   all_goals try
    intro A x W D hB bb o DD K Y;have a0:=D.2 0 (by decide);conv at a0=>rhs;whnf
    have a1:=D.2 1 (by decide);conv at a1=>rhs;whnf
    have a6:=D.2 6 (by decide);conv at a6=>rhs;whnf
    have a9:=D.2 9 (by decide);conv at a9=>rhs;whnf
    have y0:=(hB.cell (p:=⟨bc,9,none⟩) aB).trans e9;have y3:bc<W.heap.size:=by have:=hB.size;omega
    simp only[QN,QV]at DD;clear o D;go_simp
    exact Y _ _ BR rfl
   ·intro A x W D hB bb o DD K Y;have g1:=gv D o 5 101;clear o D DD;exact qX 26 _ rfl bc 0 g1 149 _ #[.int .i64 t.k,.int .i64 t.d,.int .i64 t.f,.int .i64 t.p,.int .u32 t.l,.int .i64 t.i,.slice t.ka t.kl t.kc,.slice t.sa t.sl t.sc,.slice t.pa t.pl t.pc] (0,0) _ (bn.out W hB) Tryz.underlying26 rfl (by kernel_rfl) (fun j hj=>qbE _ _ _ _ _ _ _ _ _ hj) (Y _ _ BR rfl)
   ·intro A x W D hB bb o DD K Y;have g1:=gv D o 6 102;have g2:=gv D o 10 106;have g3:=gv D o 12 108;have g4:=gv D o 13 109;have g5:=gv D o 14 110;clear o D DD;go_simp
    refine(ce.out W hB).mono ?_;rintro e w5 ⟨u,rfl,hu,bR⟩;exact Y _ _ bR (hu.le (by omega))
  intro x W0 aw bb ak;obtain⟨ag, -⟩:=ak;change OwnB B W0 (x 111) NZ at ag
  obtain⟨aW,aV,aP, -, -⟩:=ag.hold.slice;rw[aP]at ag;have dm:=hid ag;have cF:=hid aw;refine qp ?_;simp only[QA,Act.put,Ls,aP];clear ag aP aw bb;go_wp2_with fail
  refine(dn.out W0 aW aV cF.out dm.out).mono ?_;rintro e W9 ⟨rfl,cr,a3,m',O',dC,c6,a5,cH,cg,bd⟩;have aw:=cF.out;have dp:=hid (bG.out.trans ((aw.mono ax).trans cr));have dd:=hid (dx.out.trans ((MapK.of_below aw).trans a3));have dk:=hid a5;have cK:=hid cH;have cl:=hid cg;have db:=hid bd;clear aw cr a3 a5 cH cg bd;go_wp2_with fail
  refine qv ?_;go_wp2_with fail
  refine bodyPost_end (results_none rfl _ _ _) rfl ⟨rfl,dp.out,dd.out,m',O',dC,c6,dk.out,fun r hr=>?_,fun r hr=>?_,?_⟩
  ·rw[cK.out r (by omega),←ap.out];exact QX (by omega)
  ·rw[cl.out r (by omega),←bZ.out,YE (by omega),←aZ.out];exact YE (by omega)
  have aR:m' row=i+1:=by rw[cK.out row (by omega)];exact ai.out
  have dh:t.toC total row k=i+1:=by rw[aH.out];exact cd.out
  rcases db.out with⟨q1,q2,q3,q4,q5⟩|⟨q1,q2⟩
  ·rw[ab.out]at q1 q3;have cL:=qiV hT.l he kz z1 z2 h0 h1 (r:=row) (i:=k+1) (by have:=J.out;omega) q1;have bY:t.frC total row (k+1)=i+1:=by rw[aq.out.next q1];exact dh
   have cJ:=cL.lt;rw[bY]at cJ;refine .inl ⟨?_,q2,by rw[aR,aJ.out],fun r h8 h9=>?_,fun r h8 h9=>?_⟩
   ·have h8:=cL.le;have:=aJ.out
    omega
   ·by_cases e:r=row
    ·subst e;rw[q3,aR,bY];exact⟨q1,Nat.le_refl _,cJ⟩
    ·exact q4 r (by omega) h9
   ·by_cases e:r=row
    ·subst e;rw[q3,aR,cl.out (r+1) Nl,←bZ.out,qca,←bY,TreeV.segC_self]
    ·exact q5 r (by omega) h9
  ·rw[ab.out]at q1;refine .inr ⟨?_,q2⟩;have h8:=aq.out.last q1;have:=aJ.out
   omega
end Go.Proofs.YthjoojnlnlmljaaGreat
namespace Go.Proofs.YthjoojnlnlmljaaGreat
open Go.ChangeShapes Go.WideShapes Go.ChangeAt Go.RowKit Go.Joins Go.Shelf Go.Maps
open Go.Lib (hid)
def qaO (v:Value):Option (DataW Unit×List MemPlace):=match v with
 | .slice none n c=>some (.agg [.lit (.int .i64 0),.lit (.int .i64 (n:Nat)),.lit (.int .i64 (c:Nat))],[])
 | .slice (some ⟨b,o,none⟩) n c=>some (.agg [.lit (.int .i64 1),.lit (.int .i64 (b:Nat)),.lit (.int .i64 (o:Nat)),.lit (.int .i64 (n:Nat)),.lit (.int .i64 (c:Nat))],[])
 | _=>none
def encN:DataW Unit:= .agg [.lit (.int .i64 0),.lit (.int .i64 ((0:Nat):Int)),.lit (.int .i64 ((0:Nat):Int))]
theorem qei {v v':Value}{d:DataW Unit}{D q:List MemPlace}(h:qaO v=some (d,D))(o:qaO v'=some (d,q)):v=v':=by
 unfold qaO at h o;split at h<;>split at o
 all_goals first
  | (cases h;done)
  | (cases o;done)
  | skip
 all_goals
  simp only[Option.some.injEq,Prod.mk.injEq]at h o;obtain⟨rfl, -⟩:=h;have e:=o.1;simp at e
 ·simp only[Value.slice.injEq,true_and];omega
 ·simp only[Value.slice.injEq,Option.some.injEq,Addr.mk.injEq,and_true];omega
theorem J2:Keyed Tryz.prog 3:=int_keyed Tryz.underlying3
theorem qdg (j:Nat)(o:(j:Int)≤9223372036854775807):keyOf Tryz.prog 3 (.int .i64 (j:Nat))=some (.int .i64 (j:Nat)):=keyOf_int_mk Tryz.underlying3 (WalkArith.wf_i64 (by omega))
theorem qf7 (w:World):(zeroValue 24).run Tryz.prog w= .ok (.slice none 0 0) w:=by kernel_rfl
def MapIs (W:World)(b n:Nat)(S:Nat→Option Value):Prop:=
 ∃D:DataW Unit,W.ownsMap Tryz.prog 3 qaO b n D∧ ∀j:Nat,(j:Int)≤9223372036854775807→Maps.has D (.int .i64 (j:Nat))=(S j).isSome∧ ∀v,S j=some v→qaO v=some (D.atKey (.int .i64 (j:Nat)) encN,[])
theorem MapIs.keep {W W':World}{b n:Nat}{S:Nat→Option Value}(h:MapIs W b n S)(k:MapK W W'):MapIs W' b n S:=by
 obtain⟨D,⟨q,G,J,o⟩,I⟩:=h;exact⟨D,⟨q,G,k b _ J trivial,o⟩,I⟩
theorem MapIs.blockM {W:World}{b n:Nat}{S:Nat→Option Value}(h:MapIs W b n S): ∃o q,W.heap[b]? =some (.map o q):=by
 obtain⟨D,⟨o,q,G,I⟩,J⟩:=h;exact⟨o,q,G⟩
theorem qdf {i j:Nat}(h:i≠j):Lit.int .i64 (i:Nat)≠Lit.int .i64 (j:Nat):=fun e=>by
 simp at e
 exact h (by omega)
theorem qeC {w:World}{ops:Array Oper}{I:List Oper}{o:Oper}{a:Act}{Q:Exit→Act→World→Prop}(hg:o.guard=none)(m x v:Operand)(aa:o.op=Op.mapUpdate 147 m x v)(b n:Nat)(S:Nat→Option Value)(hm:a.eval m= .map (some b))(h:MapIs w b n S)(hn:n<1048576)
  (j:Nat) (hj:(j:Int)≤9223372036854775807) (val:Value) (d:DataW Unit) (hx:a.eval x= .int .i64 (j:Nat)) (hv:a.eval v=val) (J:qaO val=some (d,[]))
  (hK: ∀w',MapIs w' b (n+1) (fun q=>if q=j then some val else S q)→w.grownBy w' (some b)→wpList Tryz.prog ops Q I (a.put o.dst undef) w'):wpList Tryz.prog ops Q (o::I) a w:=by
 obtain⟨D,Z,hS⟩:=h;refine wpList_mapUpdate_own w hg m x v _ aa 3 24 J2 Tryz.underlying147 qaO b n D hm Z (by unfold maxLen;omega) _ _ _ hx hv (qdg j hj) d [] J fun w' h1 h2=>hK w' ⟨_,h1,fun q X=>?_⟩ h2
 have V:IsMap D:=by obtain⟨es,ck,k1,k2,k3,k4⟩:=Z;exact⟨_,k4⟩
 have G:WideAt.IsKeyLit (Lit.int .i64 (j:Nat)):=trivial;dsimp only;by_cases e:q=j
 ·subst e;rw[if_pos rfl,has_put_same V G];refine⟨rfl,fun Y U=>?_⟩;obtain rfl:=Option.some.inj U;rw[atKey_put_same V G];exact J
 ·rw[if_neg e,has_put_other (qdf e)];refine⟨(hS q X).1,fun Y U=>?_⟩;rw[atKey_put_other (qdf e)];exact(hS q X).2 Y U
theorem qdy {w:World}{ops:Array Oper}{G:List Oper}{o:Oper}{a:Act}{Q:Exit→Act→World→Prop}(hg:o.guard=none)(m x:Operand)(X:o.op=Op.call { callee:=Callee.builtin Builtin.delete,args:= #[m,x],argTypes:= #[147,3] })(b n:Nat)(S:Nat→Option Value)(hm:a.eval m= .map (some b))(h:MapIs w b n S)
  (j:Nat) (hj:(j:Int)≤9223372036854775807) (Z:a.eval x= .int .i64 (j:Nat))
  (hK: ∀w',MapIs w' b n (fun q=>if q=j then none else S q)→w.mapTurned w' b→wpList Tryz.prog ops Q G (a.put o.dst (.tuple #[])) w'):wpList Tryz.prog ops Q (o::G) a w:=by
 obtain⟨D,hD,V⟩:=h;refine wpList_delete_own w hg m x _ _ X 24 J2 Tryz.underlying147 qaO b n D hm hD _ _ Z (qdg j hj) fun w' h1 Y=>hK w' ⟨_,h1,fun q J=>?_⟩ Y
 dsimp only;by_cases e:q=j
 ·subst e;rw[if_pos rfl,has_del_same];exact⟨rfl,fun U I=>by cases I⟩
 ·rw[if_neg e,has_del_other (qdf e)];refine⟨(V q J).1,fun U I=>?_⟩;rw[atKey_del_other (qdf e)];exact(V q J).2 U I
theorem qfM {D:DataW Unit}{k:Lit}(h:Maps.has D k=false)(z:DataW Unit):D.atKey k z=z:=by
 cases D<;>try rfl
 rename_i o;unfold DataW.atKey;have q:o.any (fun p=>p.1.sameKey k)=false:=h;have I:o.find? (fun p=>p.1.sameKey k)=none:=List.find?_eq_none.2 (fun p G=>by have:=List.any_eq_false.1 q p G;simpa using this);simp only[I]
theorem qic {w:World}{o:Oper}{a:Act}{K:Act→World→Prop}{Q:Exit→Act→World→Prop}(m x:Operand)(V:o.op=Op.lookup 147 m x true)(b n:Nat)(S:Nat→Option Value)(hm:a.eval m= .map (some b))(h:MapIs w b n S)
  (j:Nat) (X:(j:Int)≤9223372036854775807) (Z:a.eval x= .int .i64 (j:Nat))
  (hK:K (a.put o.dst (.tuple #[(S j).getD (.slice none 0 0),.bool (S j).isSome])) w):o.wp Tryz.prog a w K Q:=by
 obtain⟨D,hD,hS⟩:=h;have U:qaO (.slice none 0 0)=some (encN,[]):=rfl;obtain⟨v,ps,q,G⟩:=hD.look_ok J2 Tryz.underlying147 (qf7 w) U (qdg j X);obtain⟨I,Y⟩:=hS j X;have J:v=(S j).getD (.slice none 0 0):=by
  cases hs:S j with
  | none=>
   rw[hs]at I;rw[qfM I]at G;exact qei G U
  | some u=>exact qei G (Y u hs)
 rw[I,J]at q;unfold Oper.wp;simp[execOp,V,hm,Z,q,Result.andThen]
 exact hK
theorem Q3 {W W':World}{b:Nat}(h:W.grownBy W' (some b)){q:Nat}{o:Obj}(D:W.heap[q]? =some o)(G:q≠b):W'.heap[q]? =some o:=(h.block q (Ai D).1 (fun e=>G (Option.some.inj e))).trans D
theorem CombS.grown {t:TreeV}{total B bc bo bm n J:Nat}{rv mv:Value}{next:Int}{m:Nat→Nat}{O:Nat→List Int}{W W':World}{os:List Value}{dv:Value}(h:CombS t total B bc bo bm n rv mv next m O W os dv)(D:W.grownBy W' (some J))(I: ∃V X,W.heap[J]? =some (.map V X)):CombS t total B bc bo bm n rv mv next m O W' os dv:=by
 obtain⟨V,X,I⟩:=I;have o: ∀(q:Nat) (c:Array Value) (T:TypeId) (fr:Nat×Nat),W.heap[q]? =some (.cells c T fr)→q≠J:=fun q c T fr U e=>by rw[e,I]at U;cases U
 refine⟨Q3 D h.box (o _ _ _ _ h.box),Q3 D h.opn (o _ _ _ _ h.opn),h.len,Q3 D h.mad (o _ _ _ _ h.mad),fun r Y=>QZ (h.row r Y) (fun g Z=>?_),h.byt,h.sep,h.base⟩;obtain⟨c,G⟩:=Yu (h.row r Y) g Z;exact(Q3 D G (o _ _ _ _ G)).trans G.symm
theorem OwnB.grownM {B D:Nat}{W W':World}{v:Value}{z:List Int}(h:OwnB B W v z)(V:W.grownBy W' (some D))(q: ∃I J,W.heap[D]? =some (.map I J)):OwnB B W' v z:=by
 obtain⟨I,J,q⟩:=q;refine⟨h.1,?_⟩;rcases h.2 with o|⟨g,G,U,e,Y,o,X⟩
 ·exact .inl o
 ·exact .inr ⟨g,G,U,e,Y,Q3 V o (fun e=>by rw[e,q]at o;cases o),X⟩
def je (t:TreeV)(kz z1 z2:List Int)(total:Nat)(L0:List (List Int))(B bc bo bm bw cnt:Nat)(ra:Option Addr)(rc:Nat)(sv:Nat→Value)(A:List Nat)(q:Nat)(W:World):Prop:=
 ∃m O os dv S,CombS t total B bc bo bm ((t.rowsOf total).length+1) (.slice ra (t.rowsOf total).length rc) (.map (some bw)) (q:Int) m O W os dv∧MapIs W bw cnt S∧B≤bw∧(∀j,S j=if j∈A∧q≤j then some (sv j) else none)∧
  ((q<nth (t.rowsOf total) 0∧dv= .slice none 0 0∧m 0=q∧qh8 t total 0 m∧ ∀r,r+1<(t.rowsOf total).length→O (r+1)=t.segC kz z1 z2 L0 total r (m (r+1)) (m r))∨
   (q=nth (t.rowsOf total) 0∧OwnB B W dv (qQ (t.lvlZ kz z1 z2 L0 ((t.rowsOf total).length - 1)) 0)))
end Go.Proofs.YthjoojnlnlmljaaGreat
namespace Go.Proofs.YthjoojnlnlmljaaGreat
open Go.ChangeShapes Go.WideShapes Go.ChangeAt Go.RowKit Go.Joins Go.Shelf Go.Maps
open Go.Lib (hid)
attribute [local go_sem] Oper.semAt_some
def qd4 (bc:Nat)(W:World):Nat:=match W.cell? ⟨bc,12,none⟩with|some (.int _ z)=>z.toNat|_=>0
theorem qfA (t:TreeV)(kz z1 z2:List Int)(total:Nat)(ht:(total:Int)≤18446744073709551615)(he:t.err total=0)(L0:List (List Int))(h0:L0.length=lvs total t.ln)(h1: ∀z∈L0,z.length≤64)(hN: ∀r,nth (t.rowsOf total) r≤1048576)(B bc bo bm I:Nat)(ra:Option Addr)(rc:Nat)(w0:World)(a7:w0.heap.size=B)(hT:TreeOk t kz z1 z2 w0)
  (sv:Nat→Value) (sa:Nat→Option Addr) (sc:Nat→Nat) (ac: ∀j,j<nth (t.rowsOf total) 0→sv j= .slice (sa j) (qQ L0 j).length (sc j)∧Hold w0 (sv j) (qQ L0 j)∧(∀b,(sv j).ownBlock=some b→b<B)∧ ∃d,qaO (sv j)=some (d,[]))
  (A:List Nat) (o q0 X:Nat) (aL:o<nth (t.rowsOf total) 0) (bg:o∉A) (hA: ∀j∈A,j<nth (t.rowsOf total) 0) (br: ∀j,j<q0→j∈A) (aT:q0∉A) (hc:X<1048576) (W:World) (hW:Below B w0 W) (hF:je t kz z1 z2 total L0 B bc bo bm I X ra rc sv A q0 W):
  Calls Tryz.prog 80 #[.pointer (some ⟨bc,0,none⟩),.int .i64 (o:Nat),sv o] W fun e W'=>e= .returned (.tuple #[])∧Below B W W'∧ ∃q,je t kz z1 z2 total L0 B bc bo bm I (X+1) ra rc sv (o::A) q W'∧(∀j,j<q→j∈o::A)∧q∉o::A:=by
 obtain⟨m,O,os,dv,S,hC,hM,bd,hS,af⟩:=hF;obtain⟨aM,bC,bR,dd,aE⟩:=ac o aL;have bz:=(qM he).len;have aW:=fun(next:Int) (m:Nat→Nat) (O:Nat→List Int) (os:List Value) (V:World) (q:Nat) (hq:q<nth (t.rowsOf total) 0) (J:Below B w0 V) (hC:CombS t total B bc bo bm ((t.rowsOf total).length+1) (.slice ra (t.rowsOf total).length rc) (.map (some I)) next m O V os (.slice none 0 0)) (hm:m 0=q) (hI:qh8 t total 0 m) (hO: ∀r,r+1<(t.rowsOf total).length→O (r+1)=t.segC kz z1 z2 L0 total r (m (r+1)) (m r))=>
  up_ok t kz z1 z2 total ht he L0 h0 h1 hN B bc bo bm ra rc (.map (some I)) next w0 a7 hT rfl ((t.rowsOf total).length - 1) 0 (by omega) m O os V (sa q) (sc q) (qQ L0 q) J hC hI (fun r _ h=>hO r h) (by rw[hm];exact hq) (by rw[hm];rfl) (.inl ⟨by rw[←(ac q hq).1];exact(ac q hq).2.1.below (a7▸J),by rw[←(ac q hq).1];exact(ac q hq).2.2.1⟩) (fun h=>by omega)
 have bI:=hid aW;have bp:=hid ac;have HW:=hid hW;have HC:=hid hC;have HM:=hid hM;have HS:=hid hS;have ag:=hid af;have bK:=hid bg;have HA:=hid hA;have a5:=hid br;have bZ:=hid aT;have bT:=hid aL;have ah:=hid bd;have au:=hid hC.base;have bt:(o:Int)≤9223372036854775807:=by have:=hN 0;omega
 have Z:=hC.box;have ab:W.cell? ⟨bc,11,none⟩=some (.map (some I)):=qd Z 11;have G:bc<W.heap.size:=(Ai Z).1;obtain⟨N0,av⟩:=Ex (nth (t.rowsOf total) 0);have bX:N0≤1048576:=by have:=hN 0;omega
 have bS:=hid aM;clear hC hM hS af bg hA br aT aL hW Z bC bR ac aW bd bz h0 h1 hN ht;rw[aM];rw[aM]at aE;go_enter Tryz.func80,Tryz.ntmps80
 go_upto_region 1 with(at_mapUpdate;refine qeC rfl _ _ _ rfl I X S rfl HM.out hc o bt _ dd rfl rfl aE ?_;intro w1 a6 aA)
 have ad: ∃es ck,W.heap[I]? =some (.map es ck):=HM.out.blockM;have aZ:=HC.out.grown aA ad;have bh: ∀D,OwnB B W dv D→OwnB B w1 dv D:=fun D h=>h.grownM aA ad
 have a9:Below B W w1:=(Below.refl B W).grown aA (by have:=au.out.1;omega) (fun k hk=>by cases hk;exact ah.out);have a4: ∀j,(if j=o then some (.slice (sa o) (qQ L0 o).length (sc o)) else S j)=if j∈o::A∧q0≤j then some (sv j) else none:=fun j=>by
  by_cases e:j=o
  ·subst e;have h8:q0≤j:=by
    rcases Nat.lt_or_ge j q0 with h|h
    ·exact absurd (a5.out j h) bK.out
    ·exact h
   rw[if_pos rfl,if_pos ⟨List.mem_cons_self,h8⟩,bS.out]
  ·rw[if_neg e,HS.out j];simp[e]
 have aX:je t kz z1 z2 total L0 B bc bo bm I (X+1) ra rc sv (o::A) q0 w1:=by
  refine⟨m,O,os,dv,_,aZ,a6,ah.out,a4,?_⟩;rcases ag.out with h|h
  ·exact .inl h
  ·exact .inr ⟨h.1,bh _ h.2⟩
 have aC:=hid aX;have al:=hid a9;have az:=hid (show ∀j∈o::A,j<N0 from fun j hj=>by
  rcases List.mem_cons.1 hj with h|h
  ·rw[h,←av];exact bT.out
  ·rw[←av];exact HA.out j h)
 have HQ:=hid (show ∀j,j<q0→j∈o::A from fun j hj=>List.mem_cons_of_mem _ (a5.out j hj));have ae:=hid av;obtain⟨A1,aQ⟩:=Ex (o::A);rw[aQ]at aC az HQ;have ao:=hid aQ;clear ad aZ bh a9 a4 aX a6 aA HC HM HS ag ab G aE aQ av;go_frame
 go_loopw [6,7] (fun _ _ V=> ∃q,je t kz z1 z2 total L0 B bc bo bm I (X+1) ra rc sv A1 q V∧(∀j,j<q→j∈A1)∧Below B W V) (fun _ _ V=>N0+1 - qd4 bc V)
 case atStart=>exact⟨q0,aC.out,HQ.out,al.out⟩
 case round=>
  clear aC al HQ;clear w1;obtain⟨q,⟨m,O,os,dv,S,hC,hM, -,hS,af⟩,hq,hb⟩:=hrel;have bY:q≤N0:=by
   rcases af with h|h
   ·rw[←ae.out];omega
   ·rw[←ae.out];omega
  have ba:(q:Int)≤9223372036854775807:=by omega
  obtain⟨vq,aK⟩:=Ex ((S q).getD (.slice none 0 0));obtain⟨ok,bf⟩:=Ex ((S q).isSome);have Z:=hC.box;have ab:wr.cell? ⟨bc,11,none⟩=some (.map (some I)):=qd Z 11;have aa:wr.cell? ⟨bc,12,none⟩=some (.int .i64 (q:Nat)):=qd Z 12;have G:bc<wr.heap.size:=(Ai Z).1;have ai:qd4 bc wr=q:=by unfold qd4;rw[aa];simp
  have bF:=hid ai;have bQ: ∃xa xn xc,vq= .slice xa xn xc:=by
   rw[←aK,hS q];by_cases h8:q∈A1∧q≤q
   ·rw[if_pos h8];exact⟨_,_,_,(bp.out q (by rw[ae.out];exact az.out q h8.1)).1⟩
   ·rw[if_neg h8];exact⟨_,_,_,rfl⟩
  obtain⟨xa,xn,xc,rfl⟩:=bQ;have HC:=hid hC;have HM:=hid hM;have HS:=hid hS;have ag:=hid af;have HQ:=hid hq;have HB:=hid hb;have aU:=hid aK;have aN:=hid bf;clear hC hM hS af hq hb aK bf Z ai;go_upto_region 1 with(fail)
  refine qD (n:=14) (w0:=wr) (B:=wr.heap.size) [.v 15 (.pointer (some ⟨bc,0,none⟩)),.v 16 (.pointer (some ⟨bc,0,none⟩)),.v 17 (.pointer (some ⟨bc,11,none⟩)),.v 18 (.map (some I)),.v 19 (.pointer (some ⟨bc,0,none⟩)),.v 20 (.pointer (some ⟨bc,0,none⟩)),.v 21 (.pointer (some ⟨bc,12,none⟩)),.v 22 (.int .i64 (q:Nat)),.v 23 (.tuple #[.slice xa xn xc,.bool ok]),.v 14 (.tuple #[.slice xa xn xc,.bool ok]),.v 24 (.slice xa xn xc),.v 25 (.bool ok),.v 6 (.slice xa xn xc),.v 7 (.bool ok)] trivial Br.drew Nl ?_ ?_
  ·repeat' (with_reducible first|exact qz|refine qx ?_ ?_)
   all_goals try
    intro AA x V hA J ax U D K hK;have a0:=hA.2 0 (by decide);conv at a0=>rhs;whnf
    have y0:=(J.cell (p:=⟨bc,11,none⟩) G).trans ab;have y1:=(J.cell (p:=⟨bc,12,none⟩) G).trans aa;have y3:bc<V.heap.size:=by omega
    simp only[QN,QV]at D;clear U hA;go_simp
    exact hK _ _ BR rfl
   intro AA x V hA J ax U _ K hK;have g1:=gv hA U 3 18;have g2:=gv hA U 7 22;clear U hA;refine qic _ _ rfl I (X+1) S g1 (HM.out.keep (MapK.of_below J)) q ba g2 ?_;rw[aU.out,aN.out];exact hK _ _ BR rfl
  intro x V J ax an;clear an;refine qv ?_;simp only[QA,Act.put,Ls];have ay:=hid (HC.out.below J);have aD:=hid (HM.out.keep (MapK.of_below J));have aR:=hid (HB.out.trans (J.mono (by have:=au.out.1;omega)));have aV:=hid (show ∀D,OwnB B wr dv D→OwnB B V dv D from fun D h=>h.kb (KB.of_below J (Nat.zero_le _)));clear J ax HC HM HB ab aa G;by_cases Y:q∈A1
  case neg=>
   have bx:ok=false:=by rw[←aN.out,HS.out q,if_neg (fun h=>Y h.1)];rfl
   have aI:=hid Y;subst bx;clear Y;go_wp2_with fail
   refine Bp (results_none rfl _ _ _) rfl ⟨rfl,aR.out,q,⟨m,O,os,dv,S,ay.out,aD.out,ah.out,by rw[ao.out];exact HS.out,?_⟩,by rw[ao.out];exact HQ.out,by rw[ao.out];exact aI.out⟩;rcases ag.out with h|h
   ·exact .inl h
   ·exact .inr ⟨h.1,aV.out _ h.2⟩
  case pos=>
   have bJ:ok=true:=by rw[←aN.out,HS.out q,if_pos ⟨Y,Nat.le_refl _⟩];rfl
   have aP:Value.slice xa xn xc=sv q:=by rw[←aU.out,HS.out q,if_pos ⟨Y,Nat.le_refl _⟩];rfl
   subst bJ;rw[(bp.out q (by rw[ae.out];exact az.out q Y)).1]at aP;simp only[Value.slice.injEq]at aP;obtain⟨rfl,rfl,rfl⟩:=aP;have bH:=az.out q Y;have aI:=hid Y;obtain⟨bP,bi,bk,a3⟩:dv= .slice none 0 0∧m 0=q∧qh8 t total 0 m∧ ∀r,r+1<(t.rowsOf total).length→O (r+1)=t.segC kz z1 z2 L0 total r (m (r+1)) (m r):=by
    rcases ag.out with h|h
    ·exact h.2
    ·have:=ae.out;omega
   subst bP;have aH:=hid bi;have bG:=hid bk;have bv:=hid a3;clear bi bk a3 Y ag aV;have aq:=ay.out.box;have ab:V.cell? ⟨bc,11,none⟩=some (.map (some I)):=qd aq 11;have aa:V.cell? ⟨bc,12,none⟩=some (.int .i64 (q:Nat)):=qd aq 12;have G:bc<V.heap.size:=(Ai aq).1;clear aq;go_upto_region 3 with(fail)
   refine qD (n:=8) (w0:=V) (B:=V.heap.size) [.v 28 (.pointer (some ⟨bc,0,none⟩)),.v 29 (.pointer (some ⟨bc,0,none⟩)),.v 30 (.pointer (some ⟨bc,11,none⟩)),.v 31 (.map (some I)),.v 32 (.pointer (some ⟨bc,0,none⟩)),.v 33 (.pointer (some ⟨bc,0,none⟩)),.v 34 (.pointer (some ⟨bc,12,none⟩)),.v 35 (.int .i64 (q:Nat))] trivial Br.drew Nl ?_ ?_
   ·repeat' (with_reducible first|exact qz|refine qx ?_ ?_)
    all_goals
     intro AA x V1 hA J ax U D K hK;have a0:=hA.2 0 (by decide);conv at a0=>rhs;whnf
     have y0:=(J.cell (p:=⟨bc,11,none⟩) G).trans ab;have y1:=(J.cell (p:=⟨bc,12,none⟩) G).trans aa;have y3:bc<V1.heap.size:=by omega
     simp only[QN,QV]at D;clear U hA;go_simp
     exact hK _ _ BR rfl
   intro x V1 ap bu an;clear an;have aG:=hid (aD.out.keep (MapK.of_below ap));have aF:=hid (ay.out.below ap);have al:=hid (aR.out.trans (ap.mono (by have:=au.out.1;omega)));refine qp ?_;simp only[QA,Act.put,Ls];clear ap bu ab aa G ay aD aR;go_wp2_with (at_delete;refine qdy rfl _ _ rfl I (X+1) S rfl aG.out q ba rfl ?_;intro w2 aS ak)
   refine qv ?_;have aJ:=ak.grown;have ad:=aG.out.blockM;have aj:=aF.out.grown aJ ad;have aB:B≤V1.heap.size:=by have:=au.out.1;have:=(Ai aF.out.box).1;omega
   have bq:Below B W w2:=al.out.grown aJ aB (fun k hk=>by cases hk;exact ah.out);have aa:w2.cell? ⟨bc,12,none⟩=some (.int .i64 (q:Nat)):=qd aj.box 12;have bV:=frozen_of_row w2 bc 12 _ _ aj.box;have G:bc<w2.heap.size:=(Ai aj.box).1;have b0:IntKind.i64.wrap ((q:Int)+1)=(q:Int)+1:=by rw[IntKind.wrap_i64]<;>omega
   have am:=hid aj;have bs:=hid bq;have be:=hid aS;clear ak aJ ad aj bq aS aG aF al aB;go_upto_region 5 with(fail)
   have aO:=(But.refl bc w2).set 12 (.int .i64 ((q:Int)+1));have bl:(w2.setCell ⟨bc,12,none⟩ (.int .i64 ((q:Int)+1))).heap[bc]? =some (.cells (JL t total (.slice ra (t.rowsOf total).length rc) (.map (some I)) ((q:Int)+1) ((t.rowsOf total).length+1) bo bm (.slice none 0 0)) 149 (0,0)):=block_setCell am.out.box _;have bA:=hid (am.out.setBox aO bl);have bn:=hid (bs.out.setCell am.out.base.1 (.int .i64 ((q:Int)+1)):Below B W (w2.setCell ⟨bc,12,none⟩ (.int .i64 ((q:Int)+1))));have bD:=hid (be.out.keep (MapK.of_but aO am.out.box));clear aO bl am bs be aa bV G;generalize w2.setCell ⟨bc,12,none⟩ (.int .i64 ((q:Int)+1))=w3 at*;go_wp2_with fail
   refine(bI.out ((q:Int)+1) m O os w3 q (by rw[ae.out];exact bH) (HW.out.trans bn.out) bA.out aH.out bG.out bv.out).mono ?_;rintro e W4 ⟨rfl,bb,aY,m',O',bM,bO,aw,bU,bW,ar⟩;have bj:=bn.out.trans bb;have a8:=bD.out.keep aY;have ai:qd4 bc W4=q+1:=by
    have h8:W4.cell? ⟨bc,12,none⟩=some (.int .i64 ((q:Int)+1)):=qd aw.box 12;unfold qd4;rw[h8];show((q:Int)+1).toNat=q+1;omega
   rw[show(q:Int)+1=((q+1:Nat):Int) by omega]at aw;have bN:=hid (show je t kz z1 z2 total L0 B bc bo bm I (X+1) ra rc sv A1 (q+1) W4 from⟨m',O',bM,bO,_,aw,a8,ah.out,fun j=>by
     by_cases e:j=q
     ·rw[if_pos e,if_neg (fun h=>by omega)]
     ·rw[if_neg e,HS.out j];by_cases h8:j∈A1∧q≤j
      ·rw[if_pos h8,if_pos ⟨h8.1,by omega⟩]
      ·rw[if_neg h8,if_neg (fun h=>h8 ⟨h.1,by omega⟩)],by
     rcases ar with⟨q1,q2,q3,q4,q5⟩|⟨q1,q2⟩
     ·rw[aH.out]at q1 q3;exact .inl ⟨q1,q2,q3,q4,fun r hr=>q5 r (Nat.zero_le _) hr⟩
     ·rw[aH.out]at q1;exact .inr ⟨q1,q2⟩⟩)
   have bL:=hid bj;have bE:=hid ai;clear bj a8 ai aw bU bW ar aY bb;go_wp2_with fail
   refine⟨⟨q+1,bN.out,fun j hj=>?_,bL.out⟩,by rw[bE.out,bF.out];omega⟩;by_cases e:j=q
   ·rw[e];exact aI.out
   ·exact HQ.out j (by omega)
def MapV (B:Nat)(v:Value)(W:World):Prop:= ∃b,v= .map (some b)∧B≤b∧W.heap[b]? =some (.map #[] 0)
def OpnV (B n:Nat)(v:Value)(W:World):Prop:= ∃b,v= .slice (some ⟨b,0,none⟩) n n∧B≤b∧W.heap[b]? =some (.cells (List.replicate n (Value.slice none 0 0)).toArray 24 (0,0))
def MadV (B n:Nat)(v:Value)(W:World):Prop:= ∃b,v= .slice (some ⟨b,0,none⟩) n n∧B≤b∧W.heap[b]? =some (.cells (Jz (fun _=>0) n) 44 (0,0))
def StrV (t:TreeV)(total B n:Nat)(rv:Value)(v:Value)(W:World):Prop:= ∃bo bm bw,v= .agg (JL t total rv (.map (some bw)) 0 n bo bm (.slice none 0 0))∧MapV B (.map (some bw)) W∧OpnV B n (.slice (some ⟨bo,0,none⟩) n n) W∧MadV B n (.slice (some ⟨bm,0,none⟩) n n) W
def PtrV (t:TreeV)(total B n:Nat)(rv:Value)(v:Value)(W:World):Prop:= ∃bc bo bm bw,v= .pointer (some ⟨bc,0,none⟩)∧B≤bc∧W.heap[bc]? =some (.cells (JL t total rv (.map (some bw)) 0 n bo bm (.slice none 0 0)) 149 (0,0))∧MapV B (.map (some bw)) W∧OpnV B n (.slice (some ⟨bo,0,none⟩) n n) W∧MadV B n (.slice (some ⟨bm,0,none⟩) n n) W
theorem MapV.below {B:Nat}{v:Value}{W W':World}(h:MapV B v W)(q:Below W.heap.size W W'):MapV B v W':=by
 obtain⟨b,e,D,o⟩:=h;exact⟨b,e,D,qg o q⟩
theorem OpnV.below {B n:Nat}{v:Value}{W W':World}(h:OpnV B n v W)(q:Below W.heap.size W W'):OpnV B n v W':=by
 obtain⟨b,e,D,o⟩:=h;exact⟨b,e,D,qg o q⟩
theorem MadV.below {B n:Nat}{v:Value}{W W':World}(h:MadV B n v W)(q:Below W.heap.size W W'):MadV B n v W':=by
 obtain⟨b,e,D,o⟩:=h;exact⟨b,e,D,qg o q⟩
theorem StrV.below {t:TreeV}{total B n:Nat}{rv v:Value}{W W':World}(h:StrV t total B n rv v W)(o:Below W.heap.size W W'):StrV t total B n rv v W':=by
 obtain⟨bo,bm,q,e,I,D,G⟩:=h;exact⟨bo,bm,q,e,I.below o,D.below o,G.below o⟩
theorem PtrV.below {t:TreeV}{total B n:Nat}{rv v:Value}{W W':World}(h:PtrV t total B n rv v W)(o:Below W.heap.size W W'):PtrV t total B n rv v W':=by
 obtain⟨bc,bo,bm,J,e,D,I,U,q,G⟩:=h;exact⟨bc,bo,bm,J,e,D,qg I o,U.below o,q.below o,G.below o⟩
theorem qfk (t:TreeV)(total G:Nat)(aL:G≤255)(ra:Option Addr)(Z:Nat)(w:World):
  Calls Tryz.prog 79 #[t.val,.int .u64 (total:Nat),.slice ra G Z] w fun e w'=>(∃v,e= .returned v∧PtrV t total w.heap.size (G+1) (.slice ra G Z) v w')∧Below w.heap.size w w':=by
 obtain⟨V,ad⟩:=Ex w.heap.size;obtain⟨ib,af,al,ao,am⟩:=info_parts YG;obtain⟨iu,ak,an,ap,aj⟩:=info_parts Z2;have aa:=fun W:World=>run_make (P:=Tryz.prog) W 67 24 ib (.slice none 0 0) Tryz.underlying67 af al .i64 .i64 ((G:Int)+1) ((G:Int)+1) (by omega) (by omega) (by rw[am];omega) (by omega)
 have ab:=fun W:World=>run_make (P:=Tryz.prog) W 105 44 iu (.int .u64 0) Tryz.underlying105 ak an .i64 .i64 ((G:Int)+1) ((G:Int)+1) (by omega) (by omega) (by rw[aj];omega) (by omega)
 simp only[ao,ap,show((G:Int)+1).toNat=G+1 by omega,Nat.mul_one]at aa ab;have ag:madeCells (Value.slice none 0 0).cells (G+1)=(List.replicate (G+1) (Value.slice none 0 0)).toArray:=by
  apply Array.toList_inj.1
  exact toList_madeCells_one _ _
 have ah:madeCells (Value.int .u64 0).cells (G+1)=Jz (fun _=>0) (G+1):=by
  apply Array.toList_inj.1
  refine(toList_madeCells_one _ _).trans ?_;unfold Jz;rw[List.map_const',List.length_range];rfl
 rw[ag]at aa;rw[ah]at ab;have ay:= @run_makeMap Tryz.prog;have aC:(G:Int)≤255:=by omega
 have aJ:IntKind.i64.wrap ((G:Int)+1)=(G:Int)+1:=by rw[IntKind.wrap_i64]<;>omega
 clear ag ah af al ao am ak an ap aj;unfold TreeV.val;go_enter Tryz.func79,Tryz.ntmps79
 go_upto_region 1 with(fail)
 refine qm ?_;intro wA ae;have ai:wA.heap[V]? =some (.cells #[.int .i64 t.k,.int .i64 t.d,.int .i64 t.f,.int .i64 t.p,.int .u32 t.l,.int .i64 t.i,.slice t.ka t.kl t.kc,.slice t.sa t.sl t.sc,.slice t.pa t.pl t.pc] 26 (0,0)):=by rw[ae];exact qe _ _ ad.symm
 have au:Below V w wA:=by rw[ae,←ad];exact Br.alloc Nl _
 have aK:V<wA.heap.size:=(Ai ai).1;clear ae;refine qD (n:=15) (w0:=wA) (B:=wA.heap.size) [.v 7 (.agg #[.int .i64 t.k,.int .i64 t.d,.int .i64 t.f,.int .i64 t.p,.int .u32 t.l,.int .i64 t.i,.slice t.ka t.kl t.kc,.slice t.sa t.sl t.sc,.slice t.pa t.pl t.pc]),.v 8 (.int .u64 (total:Nat)),.v 9 (.slice ra G Z),.p 10 (MapV V),.v 11 (.slice ra G Z),.v 12 (.int .i64 (G:Nat)),.v 13 (.int .i64 ((G:Int)+1)),.p 14 (OpnV V (G+1)),.v 15 (.slice ra G Z),.v 16 (.int .i64 (G:Nat)),.v 17 (.int .i64 ((G:Int)+1)),.p 18 (MadV V (G+1)),.p 19 (StrV t total V (G+1) (.slice ra G Z)),.p 20 (PtrV t total V (G+1) (.slice ra G Z)),.p 6 (PtrV t total V (G+1) (.slice ra G Z))] (by exact⟨(fun _ _ _ h X=>MapV.below h X),(fun _ _ _ h X=>OpnV.below h X),(fun _ _ _ h X=>MadV.below h X),(fun _ _ _ h X=>StrV.below h X),(fun _ _ _ h X=>PtrV.below h X),(fun _ _ _ h X=>PtrV.below h X),trivial⟩) Br.drew Nl ?_ ?_
 ·repeat' (with_reducible first|exact qz|refine qx ?_ ?_)
  ·intro AA x W I Y U q D K J;have a4:=I.2 3 (by decide);conv at a4=>rhs;whnf
   clear q I;exact wp_load_row 26 _ rfl V a4 _ _ _ _ (qg ai Y) Tryz.underlying26 rfl (by kernel_rfl) (J _ _ Br rfl)
  all_goals try
   intro AA x W I Y U q D K J;have a1:=I.2 1 (by decide);conv at a1=>rhs;whnf
   have a2:=I.2 2 (by decide);conv at a2=>rhs;whnf
   simp only[QN,QV]at D;clear q I;go_simp
   exact J _ _ BR rfl
  ·intro AA x W I Y U q D K J;clear q I D;go_simp
   exact J _ _ (Br.alloc Nl _) ⟨_,rfl,by omega,by exact(Array.getElem?_push_size ..)⟩
  ·intro AA x W I Y U q D K J;have g1:=gv I q 6 13;clear q I D;go_simp
   exact J _ _ (Br.alloc Nl _) ⟨_,rfl,by omega,Wn W _⟩
  ·intro AA x W I Y U q D K J;have g1:=gv I q 10 17;clear q I D;go_simp
   exact J _ _ (Br.alloc Nl _) ⟨_,rfl,by omega,Wn W _⟩
  ·intro AA x W I Y U q D K J;have g7:=gv I q 0 7;have g8:=gv I q 1 8;have g9:=gv I q 2 9;obtain⟨bw,az,k1,k2⟩:=gp I q 3 10;obtain⟨bo,aw,k3,k4⟩:=gp I q 7 14;obtain⟨bm,aB,k5,k6⟩:=gp I q 11 18;have q7:=g7;have q8:=g8;have q9:=g9;have ax:=az;have ar:=aw;have av:=aB;rw[Lh]at q7 q8 q9 ax ar av;clear q I D;go_simp
   exact J _ _ BR ⟨bo,bm,bw,rfl,⟨bw,rfl,k1,k2⟩,⟨bo,rfl,k3,k4⟩,⟨bm,rfl,k5,k6⟩⟩
  ·intro AA x W I Y U q D K J;obtain⟨bo,bm,bw,aA,k1,k2,k3⟩:=gp I q 12 19;have ac: ∀o,Below W.heap.size W (W.alloc o):=fun o=>Br.alloc Nl _
   clear q I D;unfold JL at aA;go_simp
   exact J _ _ (ac _) ⟨W.heap.size,bo,bm,bw,rfl,by omega,Wn W _,k1.below (ac _),k2.below (ac _),k3.below (ac _)⟩
  ·intro AA x W I Y U q D K J;obtain⟨bc,bo,bm,bw,aI,k0,k4,k1,k2,k3⟩:=gp I q 13 20;clear q I D;go_simp
   exact J _ _ BR ⟨bc,bo,bm,bw,rfl,k0,k4,k1,k2,k3⟩
 intro x W Y U aq;obtain⟨-, -, -, -, -,e6, -⟩:=aq;change PtrV t total V (G+1) (.slice ra G Z) (x 6) W at e6
 obtain⟨bc,bo,bm,bw,e6,k0,k4,k1,k2,k3⟩:=e6;refine qv ?_;simp only[QA,Act.put,Ls,e6];generalize x 10=aF;generalize x 14=aG;generalize x 18=aE;generalize x 19=aD;generalize x 20=aH;have HF:=hid (show PtrV t total V (G+1) (.slice ra G Z) (.pointer (some ⟨bc,0,none⟩)) W from⟨bc,bo,bm,bw,rfl,k0,k4,k1,k2,k3⟩);have HB:=hid (au.trans (Y.mono (by omega)));clear e6 k0 k4 k1 k2 k3 Y aa ab ay;go_wp2_with fail
 go_ret
 exact⟨⟨_,rfl,by rw[ad];exact HF.out⟩,by rw[ad];exact HB.out⟩
end Go.Proofs.YthjoojnlnlmljaaGreat
