/- A message with another qfk in a leaf's place: plain; bytes of one's own with one byte turned; a copy of bytes. No condition. -/
import Derived.Test.YthjoojnlnlmljaaGreatF38
import Derived.ArgAppend
import Derived.Test.YthjoojnlnlmljaaGreatF35
import Derived.Test.YthjoojnlnlmljaaGreatF05
import Derived.Test.YthjoojnlnlmljaaGreatF04
import Derived.Deep.Slices
import Derived.Test.YthjoojnlnlmljaaGreatF34
import Derived.BigQuiet
import Derived.Deep.QuietTactic
import Derived.Deep.AppendLies
import Derived.Deep.RegionHeld3
import Derived.Laws.AppendOwnNone
import Derived.Maps.AppendAt
import Derived.Deep.DeepCutAuto
import Derived.Laws.CopyOwn
import Derived.Test.YthjoojnlnlmljaaGreatF39
import Derived.Test.YthjoojnlnlmljaaGreatF40
import Derived.Test.YthjoojnlnlmljaaGreatF37
import Derived.Maps.OwnSet
set_option linter.all false
set_option maxRecDepth 100000
set_option maxHeartbeats 8000000
namespace Go.Proofs.YthjoojnlnlmljaaGreat
open Go.ChangeShapes Go.WideShapes Go.ChangeAt Go.RowKit Go.Joins Go.Shelf Go.Maps
open Go.Lib (hid)
attribute [local go_sem] Oper.semAt_some
theorem gp {a0 A:Act}{x:Tmp→Value}{ds:List Tmp}{gs:List (Value→World→Prop)}{G:List Oper}{W:World}{o:Array Edge}{q:Value→World→Prop}{D:Oper}(Y:zP a0 x ds A)
  (I: ∀e∈o,Region.binds .any e=true→ ∀D,G[e.on]? =some D→QD gs e.on (qF x D) W) (i s:Nat)
  (S:s∈ds:=by decide) (J:(⟨i,.data⟩:Edge)∈o:=by simp) (U:G[i]? =some D:=by rfl) (X:qF x D=x s:=by rfl) (V:QD gs i=q:=by rfl):q (A.tmps.getD s undef) W:=by
 have:=I _ J rfl D U
 rw[V,X]at this;rw[Y.1 s S];exact this
end Go.Proofs.YthjoojnlnlmljaaGreat
namespace Go.Proofs.YthjoojnlnlmljaaGreat
open Go.ChangeShapes Go.WideShapes Go.ChangeAt Go.RowKit Go.Joins Go.Shelf Go.Maps
open Go.Lib (hid)
def MapK (W W':World):Prop:= ∀(q:Nat) (o:Obj),W.heap[q]? =some o→(match o with| .cells _ _ _=>False|_=>True)→W'.heap[q]? =some o
theorem MapK.trans {W W' D:World}(h:MapK W W')(k:MapK W' D):MapK W D:=fun q o I G=>k q o (h q o I G) G
theorem MapK.of_below {W W':World}(h:Below W.heap.size W W'):MapK W W':=fun q o D _=>qe D h
theorem MapK.of_but {W W':World}{g:Nat}{c:Array Value}{T:TypeId}{fr:Nat×Nat}(h:But g W W')(G:W.heap[g]? =some (.cells c T fr)):MapK W W':=fun q o D I=>by
 rw[h.block q (Ai D).1 (fun e=>?_)]
 ·exact D
 ·rw[e,G]at D;obtain rfl:=Option.some.inj D;exact I
theorem qbG {W W':World}{B T s n:Nat}{v:Value}{J:List Value}(I:W.ownsRow B T s v n J)(h:Spare (fun k=>v.ownBlock≠some k) W W'):MapK W W':=fun q o D G=>by
 rw[h.block q (Ai D).1 (fun e=>?_)]
 ·exact D
 ·obtain⟨c,S⟩:=z6 I q e;rw[S]at D;obtain rfl:=Option.some.inj D;exact G
def qc5 (m:Nat→Nat)(r x:Nat):Nat→Nat:=fun q=>if q=r then x else m q
def qc6 (O:Nat→List Int)(r:Nat)(x:List Int):Nat→List Int:=fun q=>if q=r then x else O q
theorem qfC (m:Nat→Nat)(r x:Nat):qc5 m r x r=x:=if_pos rfl
theorem QP {m:Nat→Nat}{r x q:Nat}(h:q≠r):qc5 m r x q=m q:=if_neg h
theorem qbI (O:Nat→List Int)(r:Nat)(x:List Int):qc6 O r x r=x:=if_pos rfl
theorem Yw {O:Nat→List Int}{r q:Nat}{x:List Int}(h:q≠r):qc6 O r x q=O q:=if_neg h
def Jl (t:TreeV)(total:Nat)(rv mv:Value)(next:Int)(n bo bm:Nat)(dv:Value):Array Value:=
 #[.int .i64 t.k,.int .i64 t.d,.int .i64 t.f,.int .i64 t.p,.int .u32 t.l,.int .i64 t.i,.slice t.ka t.kl t.kc,.slice t.sa t.sl t.sc,.slice t.pa t.pl t.pc,.int .u64 total,rv,mv,.int .i64 next,.slice (some ⟨bo,0,none⟩) n n,.slice (some ⟨bm,0,none⟩) n n,dv]
def j9 (m:Nat→Nat)(n:Nat):Array Value:=((List.range n).map fun r=>Value.int .u64 (m r:Nat)).toArray
theorem qaW {m:Nat→Nat}{n r:Nat}(h:r<n):(j9 m n)[r]? =some (.int .u64 (m r:Nat)):=by
 unfold j9;simp[h]
theorem qf8 (m:Nat→Nat)(n r x:Nat):(j9 m n).setIfInBounds r (.int .u64 (x:Nat))=j9 (qc5 m r x) n:=by
 apply Array.ext'
 apply List.ext_getElem?
 intro i;unfold j9 qc5;rw[Array.toList_setIfInBounds,List.getElem?_set];by_cases q:r=i
 ·subst q;by_cases o:r<n<;>simp[o]
 ·rw[if_neg q];by_cases o:i<n
  ·simp[o,Ne.symm q]
  ·simp[o]
structure CombS (t:TreeV)(total B bc bo bm n:Nat)(rv mv:Value)(next:Int)(m:Nat→Nat)(O:Nat→List Int)(W:World)(os:List Value)(dv:Value):Prop where
 box:W.heap[bc]? =some (.cells (Jl t total rv mv next n bo bm dv) 149 (0,0))
 opn:W.heap[bo]? =some (.cells os.toArray 24 (0,0))
 len:os.length=n
 mad:W.heap[bm]? =some (.cells (j9 m n) 44 (0,0))
 row: ∀r,r<n→W.ownsRow B 5 1 (os.getD r undef) (O r).length ((O r).map qp)
 byt: ∀r,r<n→ ∀z∈O r,0≤z∧z≤255
 sep: ∀r s g,r≠s→(os.getD r undef).ownBlock=some g→(os.getD s undef).ownBlock≠some g
 base:B≤bc∧B≤bo∧B≤bm
namespace CombS
variable {t:TreeV} {total B bc bo bm n:Nat} {rv mv:Value} {next:Int} {m:Nat→Nat} {O:Nat→List Int} {W W':World} {os:List Value} {dv:Value}
theorem below (h:CombS t total B bc bo bm n rv mv next m O W os dv)(o:Below W.heap.size W W'):CombS t total B bc bo bm n rv mv next m O W' os dv:=
 ⟨qe h.box o,qe h.opn o,h.len,qe h.mad o,fun r q=>yC (h.row r q) (fun g D=>o.block g (Qw (h.row r q) g D)),h.byt,h.sep,h.base⟩
theorem olt (h:CombS t total B bc bo bm n rv mv next m O W os dv): ∀r g,(os.getD r undef).ownBlock=some g→r<n∧g<W.heap.size:=fun r g o=>by
 by_cases q:r<n
 ·exact⟨q,Qw (h.row r q) g o⟩
 ·rw[Lg,List.getElem?_eq_none (by have:=h.len;omega)]at o
  cases o
theorem off {g:Nat}{c:Array Value}{T:TypeId}{fr:Nat×Nat}(h:CombS t total B bc bo bm n rv mv next m O W os dv)(D:W.heap[g]? =some (.cells c T fr))(q:T≠5): ∀r k,(os.getD r undef).ownBlock=some k→k≠g:=fun r k o=>
 zZ (h.row r (h.olt r k o).1) D q k o
theorem ne1 (h:CombS t total B bc bo bm n rv mv next m O W os dv):bc≠bo∧bc≠bm∧bo≠bm:=by
 refine⟨fun e=>?_,fun e=>?_,fun e=>?_⟩
 ·have:=h.box;rw[e,h.opn]at this
  simp only[Option.some.injEq,Obj.cells.injEq]at this;exact absurd this.2.1 (by decide)
 ·have:=h.box;rw[e,h.mad]at this
  simp only[Option.some.injEq,Obj.cells.injEq]at this;exact absurd this.2.1 (by decide)
 ·have:=h.opn;rw[e,h.mad]at this
  simp only[Option.some.injEq,Obj.cells.injEq]at this;exact absurd this.2.1 (by decide)
theorem setMade (h:CombS t total B bc bo bm n rv mv next m O W os dv)(r x:Nat):CombS t total B bc bo bm n rv mv next (qc5 m r x) O (W.setCell ⟨bm,r,none⟩ (.int .u64 (x:Nat))) os dv:=by
 have o:=(But.refl bm W).set r (.int .u64 (x:Nat));obtain⟨S,I,J⟩:=h.ne1;refine⟨(o.block bc (Ai h.box).1 I).trans h.box,(o.block bo (Ai h.opn).1 J).trans h.opn,h.len,?_,fun q D=>yC (h.row q D) (fun g G=>o.block g (Qw (h.row q D) g G) (h.off h.mad (by decide) q g G)),h.byt,h.sep,h.base⟩;rw[←qf8];exact block_setCell h.mad _
theorem setBox {D:Value}{o:Int}(h:CombS t total B bc bo bm n rv mv next m O W os dv)(G:But bc W W')(S:W'.heap[bc]? =some (.cells (Jl t total rv mv o n bo bm D) 149 (0,0))):CombS t total B bc bo bm n rv mv o m O W' os D:=by
 obtain⟨V,U,X⟩:=h.ne1;exact⟨S,(G.block bo (Ai h.opn).1 (Ne.symm V)).trans h.opn,h.len,(G.block bm (Ai h.mad).1 (Ne.symm U)).trans h.mad,fun q I=>yC (h.row q I) (fun g J=>G.block g (Qw (h.row q I) g J) (h.off h.box (by decide) q g J)),h.byt,h.sep,h.base⟩
theorem setOpen {W1:World}{r:Nat}{v':Value}{ys:List Int}(h:CombS t total B bc bo bm n rv mv next m O W os dv)(hr:r<n)(G:Spare (fun k=>(os.getD r undef).ownBlock≠some k) W W1)(ho:W1.ownsRow B 5 1 v' ys.length (ys.map qp))(hy: ∀z∈ys,0≤z∧z≤255)
  (Z:v'.ownBlock=none∨v'.ownBlock=(os.getD r undef).ownBlock∨ ∀g,v'.ownBlock=some g→W.heap.size≤g):CombS t total B bc bo bm n rv mv next m (qc6 O r ys) (W1.setCell ⟨bo,r,none⟩ v') (os.set r v') dv:=by
 obtain⟨n1,n2,n3⟩:=h.ne1;have V: ∀(g:Nat) (c:Array Value) (T:TypeId),T≠5→W.heap[g]? =some (.cells c T (0,0))→W1.heap[g]? =some (.cells c T (0,0)):=fun g c T hT o=>(G.block g (Ai o).1 (fun e=>zZ (h.row r hr) o hT g e rfl)).trans o
 have D:=V _ _ _ (by decide) h.opn;have X:=(But.refl bo W1).set r v';have aa:os.length=n:=h.len;have U: ∀q,(os.set r v').getD q undef=if r=q then v' else os.getD q undef:=fun q=>qg9 _ _ _ _ _ (by omega)
 have ab: ∀q g,q≠r→(os.getD q undef).ownBlock=some g→W1.heap[g]? =W.heap[g]? :=fun q g J o=>G.block g (h.olt q g o).2 (fun e=>h.sep q r g J o e)
 refine⟨(X.block bc (by have:=G.size;have:=(Ai h.box).1;omega) n1).trans (V _ _ _ (by decide) h.box),?_,by rw[List.length_set];exact aa,(X.block bm (by have:=G.size;have:=(Ai h.mad).1;omega) (Ne.symm n3)).trans (V _ _ _ (by decide) h.mad),fun q J=>?_,fun q J=>?_,fun q s g S o=>?_,h.base⟩
 ·rw[←List.setIfInBounds_toArray];exact block_setCell D _
 ·rw[U];unfold qc6;by_cases e:q=r
  ·subst e;rw[if_pos rfl,if_pos rfl];exact yC ho (fun g o=>X.block g (Qw ho g o) (zZ ho D (by decide) g o))
  ·rw[if_neg e,if_neg (fun x=>e x.symm)];have h1:=yC (h.row q J) (fun g o=>ab q g e o);exact yC h1 (fun g o=>X.block g (Qw h1 g o) (zZ h1 D (by decide) g o))
 ·unfold qc6;by_cases e:q=r
  ·rw[if_pos e];exact hy
  ·rw[if_neg e];exact h.byt q J
 ·rw[U]at o⊢;by_cases I:r=q
  ·rw[if_pos I]at o;rw[if_neg (fun Y=>S (I.symm.trans Y))];rcases Z with k|k|k
   ·rw[k]at o;cases o
   ·rw[k]at o;exact h.sep r s g (fun e=>S (I.symm.trans e)) o
   ·exact fun e=>by have:=(h.olt s g e).2;have:=k g o;omega
  ·rw[if_neg I]at o;by_cases Y:r=s
   ·rw[if_pos Y];rcases Z with k|k|k
    ·rw[k];exact fun e=>by cases e
    ·rw[k];exact h.sep q r g (fun e=>I e.symm) o
    ·exact fun e=>by have:=(h.olt q g o).2;have:=k g e;omega
   ·rw[if_neg Y];exact h.sep q s g S o
end CombS
end Go.Proofs.YthjoojnlnlmljaaGreat
namespace Go.Proofs.YthjoojnlnlmljaaGreat
open Go.ChangeShapes Go.WideShapes Go.ChangeAt Go.RowKit Go.Joins Go.Shelf Go.Maps
open Go.Lib (hid)
attribute [local go_sem] Oper.semAt_some
theorem ZU {t:TreeV}(h:t.validE=0)(kz z1 z2:List Int){L0:List (List Int)}(D:L0≠[])(G: ∀z∈L0,z.length≤64)(total r i m:Nat):(t.segC kz z1 z2 L0 total r i m).length≤64*(t.lvlZ kz z1 z2 L0 r).length:=by
 unfold TreeV.segC;have q:=(QO h kz z1 z2 D G r).2.2;have I:=zF (L:=((t.lvlZ kz z1 z2 L0 r).drop (t.frC total r i)).take (m - t.frC total r i)) (fun z o=>q z (List.mem_of_mem_drop (List.mem_of_mem_take o)));have J:(((t.lvlZ kz z1 z2 L0 r).drop (t.frC total r i)).take (m - t.frC total r i)).length≤(t.lvlZ kz z1 z2 L0 r).length:=by rw[List.length_take,List.length_drop];omega
 omega
def SumAt (B:Nat)(W:World)(v:Value)(Z:List Int):Prop:=(Hold W v Z∧ ∀b,v.ownBlock=some b→b<B)∨OwnB B W v Z
theorem SumAt.hold {B:Nat}{W:World}{v:Value}{Z:List Int}(h:SumAt B W v Z):Hold W v Z:=by
 rcases h with h|h
 ·exact h.1
 ·exact h.hold
theorem SumAt.but {B g:Nat}{W W':World}{v:Value}{Z:List Int}{c:Array Value}{T:TypeId}{fr:Nat×Nat}(h:SumAt B W v Z)(o:But g W W')(I:W.heap[g]? =some (.cells c T fr))(G:T≠5)(J:B≤g):SumAt B W' v Z:=by
 rcases h with h|h
 ·exact .inl ⟨h.1.keep o.size fun b D q=>o.block b q (by have:=h.2 b D;omega),h.2⟩
 ·exact .inr (h.kb (b:=0) (KB.of_but o (Nat.zero_le _) (Nat.zero_le _) I G))
def GrowB (B M:Nat)(v:Value)(ys:List Int)(u:Value)(W:World):Prop:=W.ownsRow B 5 1 u ys.length (ys.map qp)∧(u.ownBlock=v.ownBlock∨ ∀g,u.ownBlock=some g→M≤g)
theorem GrowB.below {B M:Nat}{v u:Value}{ys:List Int}{W W':World}(h:GrowB B M v ys u W)(q:Below W.heap.size W W'):GrowB B M v ys u W':=⟨yC h.1 (fun g o=>q.block g (Qw h.1 g o)),h.2⟩
def NewAt (M:Nat)(T:TypeId)(n:Nat)(v:Value)(W:World):Prop:= ∃q c,v= .pointer (some ⟨q,0,none⟩)∧M≤q∧W.heap[q]? =some (.cells c T (0,0))∧c.size=n
theorem NewAt.below {M n:Nat}{T:TypeId}{v:Value}{W W':World}(h:NewAt M T n v W)(G:Below W.heap.size W W'):NewAt M T n v W':=by
 obtain⟨q,c,e,I,o,D⟩:=h;exact⟨q,c,e,I,qe o G,D⟩
theorem NewAt.setRow {M n p:Nat}{T:TypeId}{v:Value}{W:World}{c:Array Value}(h:NewAt M T n v W)(S:W.heap[p]? =some (.cells c T (0,0)))(d:Array Value)(U:d.size=n):NewAt M T n v (W.setRow p d):=by
 obtain⟨q,J,e,D,G,I⟩:=h;by_cases o:q=p
 ·subst o;exact⟨q,d,e,D,setRow_heap _ _ _ _ _ _ S,U⟩
 ·exact⟨q,J,e,D,(setRow_other _ _ _ _ o).trans G,I⟩
theorem qa8 (t:TreeV)(total:Nat)(rv mv:Value)(next:Int)(n bo bm:Nat)(dv:Value){j:Nat}(o:j<9):(Jl t total rv mv next n bo bm dv)[0+j]? =(#[.int .i64 t.k,.int .i64 t.d,.int .i64 t.f,.int .i64 t.p,.int .u32 t.l,.int .i64 t.i,.slice t.ka t.kl t.kc,.slice t.sa t.sl t.sc,.slice t.pa t.pl t.pc]:Array Value)[j]? :=by
 rcases j with _|_|_|_|_|_|_|_|_|j
 all_goals first|rfl|omega
def qin (t:TreeV)(kz z1 z2:List Int)(total:Nat)(L0:List (List Int))(B bc bo bm:Nat)(rv mv:Value)(next:Int)(row:Nat)(m:Nat→Nat)(O:Nat→List Int)(W:World)(e:Ending)(W':World):Prop:=
 e= .returned (.tuple #[])∧Below B W W'∧MapK W W'∧ ∃m' O' os' dv',CombS t total B bc bo bm ((t.rowsOf total).length+1) rv mv next m' O' W' os' dv'∧(∀r,r<row→m' r=m r)∧(∀r,r≤row→O' r=O r)∧
  ((m row+1<nth (t.rowsOf total) row∧dv'= .slice none 0 0∧m' row=m row+1∧qhu t total row m'∧ ∀r,row≤r→r+1<(t.rowsOf total).length→O' (r+1)=t.segC kz z1 z2 L0 total r (m' (r+1)) (m' r))∨
   (m row+1=nth (t.rowsOf total) row∧OwnB B W' dv' (Qi (t.lvlZ kz z1 z2 L0 ((t.rowsOf total).length - 1)) 0)))
theorem up_ok (t:TreeV)(kz z1 z2:List Int)(total:Nat)(ht:(total:Int)≤18446744073709551615)(he:t.err total=0)(L0:List (List Int))(h0:L0.length=lvs total t.ln)(h1: ∀z∈L0,z.length≤64)(hN: ∀r,nth (t.rowsOf total) r≤1048576)(B bc bo bm:Nat)(ra:Option Addr)(rc:Nat)(mv:Value)(next:Int)(w0:World)(dA:w0.heap.size=B)(hT:TreeOk t kz z1 z2 w0)(dL:mv.oneCell'=true):
 ∀(d row:Nat),row+d+1=(t.rowsOf total).length→ ∀(m:Nat→Nat) (O:Nat→List Int) (os:List Value) (W:World) (sa:Option Addr) (sc:Nat) (Z:List Int),Below B w0 W→CombS t total B bc bo bm ((t.rowsOf total).length+1) (.slice ra (t.rowsOf total).length rc) mv next m O W os (.slice none 0 0)→qhu t total row m→(∀r,row≤r→r+1<(t.rowsOf total).length→O (r+1)=t.segC kz z1 z2 L0 total r (m (r+1)) (m r))→m row<nth (t.rowsOf total) row→Z=Qi (t.lvlZ kz z1 z2 L0 row) (m row)→SumAt B W (.slice sa Z.length sc) Z→(d=0→OwnB B W (.slice sa Z.length sc) Z)→
 Calls Tryz.prog 117 #[.pointer (some ⟨bc,0,none⟩),.int .i64 (row:Nat),.slice sa Z.length sc] W (qin t kz z1 z2 total L0 B bc bo bm (.slice ra (t.rowsOf total).length rc) mv next row m O W):=by
 have G:=qM he;have dG:(t.rowsOf total).length≤255:=by have:=G.most;have:=(qq (qG he)).2.2.2.2.2.2.2.1;unfold TreeV.pn at*;omega
 have cF:((t.rowsOf total).length:Int)≤255:=by omega
 intro d;induction d with
 | zero=>
  intro row aj m O os W sa sc Z hW hC hI hO hm hZ hH aB;have hc:W.heap[bc]? =some (.cells (Jl t total (.slice ra (t.rowsOf total).length rc) mv next ((t.rowsOf total).length+1) bo bm (.slice none 0 0)) 149 (0,0)):=hC.box;have aA:=G.last;rw[show(t.rowsOf total).length - 1=row by omega]at aA;have cI:m row=0:=by omega
  have HC:=hid hC;have HO:=hid (aB rfl);have HZ:=hid hZ;have ca:W.cell? ⟨bc,10,none⟩=some (.slice ra (t.rowsOf total).length rc):=qa hc 10;have dK:W.cell? ⟨bc,15,none⟩=some (.slice none 0 0):=qa hc 15;have dJ:=frozen_of_row W bc 15 _ _ hc;have cV:bc<W.heap.size:=(Ai hc).1;have HL:=hid aA;have cv:=hid cI;have J:=hid aj;have bv:((row:Int)==((t.rowsOf total).length:Int) - 1)=true:=by rw[beq_iff_eq];omega
  have bW:IntKind.i64.wrap (((t.rowsOf total).length:Int) - 1)=((t.rowsOf total).length:Int) - 1:=by rw[IntKind.wrap_i64]<;>omega
  have bY:=hid hc;clear hC hI hO hm hZ hH aB aA cI hW G hN aj hc;go_enter Tryz.func117,Tryz.ntmps117
  go_wp2_with fail
  have ak:=(But.refl bc W).set 15 (.slice sa Z.length sc);have hx:(W.setCell ⟨bc,15,none⟩ (.slice sa Z.length sc)).heap[bc]? =some (.cells (Jl t total (.slice ra (t.rowsOf total).length rc) mv next ((t.rowsOf total).length+1) bo bm (.slice sa Z.length sc)) 149 (0,0)):=block_setCell bY.out _;have dt:OwnB B (W.setCell ⟨bc,15,none⟩ (.slice sa Z.length sc)) (.slice sa Z.length sc) Z:=HO.out.kb (b:=0) (KB.of_but ak (Nat.zero_le _) (Nat.zero_le _) bY.out (by decide));have dr:Below B W (W.setCell ⟨bc,15,none⟩ (.slice sa Z.length sc)):=(Below.refl B W).setCell HC.out.base.1 _;have bh:=MapK.of_but ak bY.out;have bl:=HC.out.setBox ak hx;refine bodyPost_end (results_none rfl _ _ _) rfl ⟨rfl,dr,bh,m,O,os,_,bl,fun _ _=>rfl,fun _ _=>rfl,.inr ⟨by have:=HL.out;have:=cv.out;omega,?_⟩⟩;rw[show(t.rowsOf total).length - 1=row by have:=J.out;omega,←cv.out,←HZ.out];exact dt
 | succ d ih=>
  intro row aj m O os W sa sc Z hW hC hI hO hm hZ hH aB;have ap:=qii hT.l he kz z1 z2 h0 h1 (r:=row) (i:=m (row+1)) (by omega) (hI row Nl (by omega)).1;obtain⟨ar,aJ,aV⟩:=hI row Nl (by omega);have cO:=hO row Nl (by omega);have cj:=QV he kz z1 z2 h0 h1 row (by omega);have ae:=qam (t:=t) (kz:=kz) (z1:=z1) (z2:=z2) (L0:=L0) (total:=total) (r:=row) (i:=m (row+1)) aJ (by omega);rw[←cO,←hZ]at ae;have be:=ZU (qG he) kz z1 z2 (L0:=L0) (by intro e;rw[e]at h0;unfold lvs at h0;simp at h0;omega) h1 total row (m (row+1)) (m row+1);have dg:(t.lvlZ kz z1 z2 L0 row).length≤1048576:=by rw[cj];exact hN row
  obtain⟨k,hk⟩:=Ex (m (row+1));obtain⟨i,hi⟩:=Ex (m row);rw[hk]at ar aJ aV ap ae be;rw[hi]at aJ aV ae hm be;have cw:(O (row+1)).length+Z.length≤67108864:=by
   rw[ae,List.length_append]at be;omega
  have cl:(k:Int)<1048576:=by have:=hN (row+1);omega
  have cB:(i:Int)<1048576:=by have:=hN row;omega
  have b7:(row:Int)+1≤255:=by omega
  have hc:=hC.box;have ag:=hC.row (row+1) (by omega);obtain⟨oa,oc,eo⟩:=ZF ag;have HC:=hid hC;have HI:=hid hI;have HO:=hid hO;have HZ:=hid hZ;have au:=hid ap;have cT:=hid ae;have HW:=hid hW;have HH:=hid hH;have HK:=hid hk;have aE:=hid hi;have bg:=hid ar;have c0:=hid aJ;have de:=hid aV;have HM:=hid hm;have J:=hid aj;have dl:=hid cw;have bp:=hid eo;have ca:W.cell? ⟨bc,10,none⟩=some (.slice ra (t.rowsOf total).length rc):=qa hc 10;have c9:W.cell? ⟨bc,14,none⟩=some (.slice (some ⟨bm,0,none⟩) ((t.rowsOf total).length+1) ((t.rowsOf total).length+1)):=qa hc 14;have cm:W.cell? ⟨bm,row,none⟩=some (.int .u64 (i:Nat)):=by rw[←hi];exact(qa hC.mad row).trans (qaW (by omega))
  have fm:=frozen_of_row W bm row _ _ hC.mad;have cV:bc<W.heap.size:=(Ai hc).1;have dH:bm<W.heap.size:=(Ai hC.mad).1;have bv:((row:Int)==((t.rowsOf total).length:Int) - 1)=false:=by rw[beq_eq_false_iff_ne];omega
  have bW:IntKind.i64.wrap (((t.rowsOf total).length:Int) - 1)=((t.rowsOf total).length:Int) - 1:=by rw[IntKind.wrap_i64]<;>omega
  have cu:IntKind.u64.wrap ((i:Int)+1)=(i:Int)+1:=u64_wrap_id _ (by omega) (by omega);have dE:IntKind.i64.wrap ((row:Int)+1)=(row:Int)+1:=by rw[IntKind.wrap_i64]<;>omega
  have cp:(row:Int)<((t.rowsOf total).length:Int):=by omega
  have aT:(row:Int)+1<((t.rowsOf total).length:Int):=by omega
  clear hC hI hO hm hZ hH aB hW G aj hc ap hk hi ar aJ aV ag eo cO cj ae be dg cw;go_enter Tryz.func117,Tryz.ntmps117
  go_upto_region 3 with(fail)
  refine qj ?_;intro W1 ax;have cd:CombS t total B bc bo bm ((t.rowsOf total).length+1) (.slice ra (t.rowsOf total).length rc) mv next (qc5 m row (i+1)) O W1 os (.slice none 0 0):=by rw[ax];exact HC.out.setMade row (i+1)
  have b5:Below B W W1:=by rw[ax];exact(Below.refl B W).setCell HC.out.base.2.2 _
  have ar:MapK W W1:=by rw[ax];exact MapK.of_but ((But.refl bm W).set row _) HC.out.mad
  have dn:W1.heap.size=W.heap.size:=by rw[ax];simp[World.setCell]
  have ce:Hold W1 (.slice sa Z.length sc) Z:=by rw[ax];exact(HH.out.but ((But.refl bm W).set row _) HC.out.mad (by decide) HC.out.base.2.2).hold
  have S:=hid cd;have cM:=hid b5;have bx:=hid ar;have b3:=hid ce;clear ax cd b5 ar ce ca c9 cm fm;have bF:=S.out.box;have bw:=bp.out;have cf:W1.cell? ⟨bc,13,none⟩=some (.slice (some ⟨bo,0,none⟩) ((t.rowsOf total).length+1) ((t.rowsOf total).length+1)):=qa bF 13;have co:W1.cell? ⟨bo,row+1,none⟩=some (.slice oa (O (row+1)).length oc):=by
   rw[←bw,qa S.out.opn (row+1)];have:=S.out.len
   simp only[List.getElem?_toArray];rw[Lg,List.getElem?_eq_getElem (by have:=J.out;omega)];rfl
  have ay:bc<W1.heap.size:=(Ai bF).1;have aC:bo<W1.heap.size:=(Ai S.out.opn).1;have c6:B≤W1.heap.size:=by have:=S.out.base.1;omega
  obtain⟨i0,c5,bH,bQ,bK⟩:=info_parts Qy;have a5:W1.ownsRow B 5 1 (.slice oa (O (row+1)).length oc) (O (row+1)).length ((O (row+1)).map qp):=by rw[←bw];exact S.out.row (row+1) (by have:=J.out;omega)
  have af:=hid a5;have dB:=dl.out;clear a5 bw;have aX: ∀(W:World) (f:Bool),((f=false→Below W1.heap.size W1 W)∧(f=true→Spare (fun k=>(Value.slice oa (O (row+1)).length oc).ownBlock≠some k) W1 W))→W.heap[bc]? =W1.heap[bc]? ∧W.heap[bo]? =W1.heap[bo]? ∧W1.heap.size≤W.heap.size:=fun W f G=>by
   cases f
   ·exact⟨(G.1 rfl).block bc ay,(G.1 rfl).block bo aC,(G.1 rfl).size⟩
   ·exact⟨(G.2 rfl).block bc ay (fun e=>zZ af.out S.out.box (by decide) bc e rfl),(G.2 rfl).block bo aC (fun e=>zZ af.out S.out.opn (by decide) bo e rfl),(G.2 rfl).size⟩
  refine jO (n:=16) (fun f W=>(f=false→Below W1.heap.size W1 W)∧(f=true→Spare (fun k=>(Value.slice oa (O (row+1)).length oc).ownBlock≠some k) W1 W)) 15 [.v 31 (.pointer (some ⟨bc,0,none⟩)),.v 32 (.pointer (some ⟨bc,0,none⟩)),.v 33 (.pointer (some ⟨bc,13,none⟩)),.v 34 (.slice (some ⟨bo,0,none⟩) ((t.rowsOf total).length+1) ((t.rowsOf total).length+1)),.v 35 (.int .i64 (row:Nat)),.v 36 (.int .i64 ((row:Int)+1)),.v 37 (.pointer (some ⟨bc,0,none⟩)),.v 38 (.pointer (some ⟨bc,0,none⟩)),.v 39 (.pointer (some ⟨bc,13,none⟩)),.v 40 (.slice (some ⟨bo,0,none⟩) ((t.rowsOf total).length+1) ((t.rowsOf total).length+1)),.v 41 (.int .i64 (row:Nat)),.v 42 (.int .i64 ((row:Int)+1)),.v 43 (.pointer (some ⟨bo,row+1,none⟩)),.v 44 (.slice oa (O (row+1)).length oc),.v 45 (.slice sa Z.length sc),.p 46 (GrowB B W1.heap.size (.slice oa (O (row+1)).length oc) (O (row+1)++Z))] (by exact⟨(fun _ _ hb _ h=>GrowB.below h hb),trivial⟩) ⟨fun _=>Br.drew,fun h=>(by cases h)⟩ (fun f W W' h hb=>⟨fun e=>(h.1 e).trans (hb.mono (h.1 e).size),fun e=>(h.2 e).trans (Spare.of_below _ hb) (fun _ _ h=>h)⟩) ?_ ?_ ?_
  ·repeat' (with_reducible first|exact qx|refine qt ?_ ?_)
   all_goals try
    refine .inr ?_;intro A x W f' D G hf bn hx o DD K X;obtain⟨cy,cN,dI⟩:=aX W f' G;have a0:=D.2 0 (by decide);conv at a0=>rhs;whnf
    have a1:=D.2 1 (by decide);conv at a1=>rhs;whnf
    have a2:=D.2 2 (by decide);conv at a2=>rhs;whnf
    have y0:=(World.cell?_of_block (a:=⟨bc,13,none⟩) cy).trans cf;have y1:=(World.cell?_of_block (a:=⟨bo,row+1,none⟩) cN).trans co;have y3:bc<W.heap.size:=by omega
    have y4:bo<W.heap.size:=by omega
    clear cy cN;simp only[QJ,QS]at DD;clear o D;go_simp
    exact X _ _ BR rfl
   any_goals exact .inl rfl
  ·intro A x W D G hx o K X;have g1:=gw D o 13 44;have g2:=gw D o 14 45;clear o D;have hB:=G.1 rfl;have ho:=yC af.out (fun g hg=>hB.block g (Qw af.out g hg));refine Yf _ _ 24 rfl B 5 i0 (.int .u8 0) 1 Tryz.underlying24 c5 bH bQ bK rfl (.slice oa (O (row+1)).length oc) (O (row+1)).length ((O (row+1)).map qp) g1 ho (.slice sa Z.length sc) Z.length (Z.map qp) g2 ((b3.out.below hB).src) (by unfold maxLen;omega) (by omega) (by have:=hB.size;omega) ?_;intro v' w' k1 k2 k3;rw[←List.map_append]at k1;refine X v' w' (fun h=>by cases h) ⟨fun h=>(by cases h),fun _=>(Spare.of_below _ hB).trans (Spare.of_grown k2) (fun _ _ h=>h)⟩ ⟨.inr (.inr (fun _ h=>h)),.inr (.inr (fun _ h=>h)),.inr (.inr (fun _ h=>h)),.inr (.inr (fun _ h=>h)),.inr (.inr (fun _ h=>h)),.inr (.inr (fun _ h=>h)),.inr (.inr (fun _ h=>h)),.inr (.inr (fun _ h=>h)),.inr (.inr (fun _ h=>h)),.inr (.inr (fun _ h=>h)),.inr (.inr (fun _ h=>h)),.inr (.inr (fun _ h=>h)),.inr (.inr (fun _ h=>h)),.inr (.inr (fun _ h=>h)),.inr (.inr (fun _ h=>h)),.inl rfl,trivial⟩ ⟨by rw[List.length_append];exact k1,?_⟩;rcases k3 with k3|k3
   ·exact .inl k3
   ·refine .inr fun g hg=>?_
    rw[k3]at hg;cases hg;exact hB.size
  intro x W2 G ah;obtain⟨cE, -⟩:=ah;change GrowB B W1.heap.size (.slice oa (O (row+1)).length oc) (O (row+1)++Z) (x 46) W2 at cE
  obtain⟨bj,aL⟩:=cE;have ac:=G.2 rfl;obtain⟨na,nc,eN⟩:=ZF bj;rw[eN]at bj aL;have bT: ∀(g:Nat) (c:Array Value) (T:TypeId),T≠5→W1.heap[g]? =some (.cells c T (0,0))→W2.heap[g]? =some (.cells c T (0,0)):=fun g c T hT hg=>(ac.block g (Ai hg).1 (fun e=>zZ af.out hg hT g e rfl)).trans hg
  have al:=bT _ _ _ (by decide) S.out.opn;have fz:=frozen_of_row W2 bo (row+1) _ _ al;have n0:W2.cell? ⟨bo,row+1,none⟩=some (.slice oa (O (row+1)).length oc):=(World.cell?_of_block (a:=⟨bo,row+1,none⟩) (al.trans S.out.opn.symm)).trans co;have b4:bo<W2.heap.size:=(Ai al).1;have am:=S.out.setOpen (r:=row+1) (v':= .slice na (O (row+1)++Z).length nc) (ys:=O (row+1)++Z) (W1:=W2) (by have:=J.out;omega) (by rw[bp.out];exact ac) bj (fun z hz=>by
   rcases List.mem_append.1 hz with hz|hz
   ·exact S.out.byt (row+1) (by have:=J.out;omega) z hz
   ·exact b3.out.1 z hz) (.inr (by rw[bp.out];exact aL))
  have cG:Below B W1 W2:=⟨ac.os,ac.tape,ac.output,ac.size,fun k hk=>ac.block k (by omega) (fun e=>by have:=qcB af.out k e;omega)⟩;have bz:=qbG af.out ac;have I:=hid am;have aH:=hid (cM.out.trans (cG.setCell HC.out.base.2.1 _:Below B W1 (W2.setCell ⟨bo,row+1,none⟩ (.slice na (O (row+1)++Z).length nc))));have ai:=hid (bx.out.trans (bz.trans (MapK.of_but ((But.refl bo W2).set (row+1) (.slice na (O (row+1)++Z).length nc)) al)));refine qo ?_;simp only[Qx,Act.put,Ls,eN];clear bj aL ac bT al am cG bz eN G cf co bF;go_wp2_with fail
  refine qo ?_;go_wp2_with fail
  refine qs ?_;rw[List.length_append]at I aH ai;generalize W2.setCell ⟨bo,row+1,none⟩ (.slice na ((O (row+1)).length+Z.length) nc)=Y at*;replace I:Hid (CombS t total B bc bo bm ((t.rowsOf total).length+1) (.slice ra (t.rowsOf total).length rc) mv next (qc5 m row (i+1)) (qc6 O (row+1) (O (row+1)++Z)) Y (os.set (row+1) (.slice na ((O (row+1)).length+Z.length) nc)) (.slice none 0 0)):=I
  replace aH:Hid (Below B W Y):=aH
  replace ai:Hid (MapK W Y):=ai
  obtain⟨m1,aF⟩:=Ex (qc5 m row (i+1));obtain⟨O1,bb⟩:=Ex (qc6 O (row+1) (O (row+1)++Z));obtain⟨cx,bE⟩:=Ex (os.set (row+1) (.slice na ((O (row+1)).length+Z.length) nc));rw[aF,bb,bE]at I;have aw:=hid aF;have bk:=hid bb;have bO:m1 row=i+1:=by rw[←aF];exact qfC _ _ _
  have bN:m1 (row+1)=k:=by rw[←aF,QP (by omega)];exact HK.out
  have bR:O1 (row+1)=t.segC kz z1 z2 L0 total row k (i+1):=by rw[←bb,qbI];exact cT.out.symm
  have ao:=hid bO;have ab:=hid bN;have aQ:=hid bR;clear aF bb bE bO bN bR S cM bx b3 af aX bp fz n0 b4 ay aC c6 dn dB;clear W2 W1;have aa:=I.out.box;have dd:Y.cell? ⟨bc,14,none⟩=some (.slice (some ⟨bm,0,none⟩) ((t.rowsOf total).length+1) ((t.rowsOf total).length+1)):=qa aa 14;have em:Y.cell? ⟨bm,row+1,none⟩=some (.int .u64 (k:Nat)):=by rw[←ab.out];exact(qa I.out.mad (row+1)).trans (qaW (by have:=J.out;omega))
  have e9:Y.cell? ⟨bc,9,none⟩=some (.int .u64 (total:Nat)):=qa aa 9;have az:bc<Y.heap.size:=(Ai aa).1;have cX:bm<Y.heap.size:=(Ai I.out.mad).1;have aq:B≤Y.heap.size:=by have:=I.out.base.1;omega
  have ap:=au.out.spot;obtain⟨aP,bA⟩:=qda he (k:=row+1) (at_:=k) (by have:=J.out;omega) bg.out;have aU:t.spotR total ((row+1:Nat):Int) k=⟨row+1,k,t.frC total row k,t.toC total row k,t.laC total row k,decide (row+2=(t.rowsOf total).length)⟩:=by rw[bA];exact ap
  have bM:=hid aU;have cR:=hid aP;have ad:=fun(W:World)=>qdb t hT.l total ht ((row+1:Nat):Int) k W
  rw[aU,aP]at ad;unfold SpotV.val at ad;simp only at ad
  rw[show((row+1:Nat):Int)=(row:Int)+1 by omega]at ad;have aY:=hid ad;obtain⟨F,hF⟩:=Ex (t.frC total row k);obtain⟨T,a3⟩:=Ex (t.toC total row k);obtain⟨la,bZ⟩:=Ex (t.laC total row k);obtain⟨rt,bU⟩: ∃rt,decide (row+2=(t.rowsOf total).length)=rt:=⟨_,rfl⟩;rw[hF,a3,bZ,bU]at aY bM;have bV:=au.out.le;rw[a3]at bV;have cg:(T:Int)≤1048576:=by have:=hN row;omega
  have aG:=hid a3;have dC:=hid bZ;have dF:=hid bU;have dM:=hid hF;have bf:=hid (fun(W:World) (hW:Below Y.heap.size Y W)=>qe aa hW);clear ap aP bA aU ad hF a3 bZ bU bV aa;unfold TreeV.val at aY;go_upto_region 5 with(fail)
  refine jO (n:=18) (fun f W=>Below Y.heap.size Y W) 16 [.v 57 (.pointer (some ⟨bc,0,none⟩)),.v 58 (.pointer (some ⟨bc,0,none⟩)),.v 59 (.pointer (some ⟨bc,0,none⟩)),.v 60 (.agg #[.int .i64 t.k,.int .i64 t.d,.int .i64 t.f,.int .i64 t.p,.int .u32 t.l,.int .i64 t.i,.slice t.ka t.kl t.kc,.slice t.sa t.sl t.sc,.slice t.pa t.pl t.pc]),.v 61 (.pointer (some ⟨bc,0,none⟩)),.v 62 (.pointer (some ⟨bc,0,none⟩)),.v 63 (.pointer (some ⟨bc,9,none⟩)),.v 64 (.int .u64 (total:Nat)),.v 65 (.int .i64 (row:Nat)),.v 66 (.int .i64 ((row:Int)+1)),.v 67 (.int .u64 (k:Nat)),.v 68 (.tuple #[.agg #[.int .i64 ((row:Int)+1),.int .u64 (k:Nat),.int .u64 (F:Nat),.int .u64 (T:Nat),.bool la,.bool rt],.int .i64 0]),.v 56 (.tuple #[.agg #[.int .i64 ((row:Int)+1),.int .u64 (k:Nat),.int .u64 (F:Nat),.int .u64 (T:Nat),.bool la,.bool rt],.int .i64 0]),.v 69 (.agg #[.int .i64 ((row:Int)+1),.int .u64 (k:Nat),.int .u64 (F:Nat),.int .u64 (T:Nat),.bool la,.bool rt]),.v 70 (.int .i64 0),.p 7 (NewAt Y.heap.size 96 6),.f none [7] (fun l W=> ∃q,l=[.pointer (some ⟨q,0,none⟩)]∧Y.heap.size≤q∧W.heap[q]? =some (.cells #[.int .i64 ((row:Int)+1),.int .u64 (k:Nat),.int .u64 (F:Nat),.int .u64 (T:Nat),.bool la,.bool rt] 96 (0,0))),.v 8 (.int .i64 0)] (by exact⟨(fun _ _ hb _ h=>NewAt.below h hb),(fun _ _ hb l h=>by obtain⟨q,e,h1,h2⟩:=h;exact⟨q,e,h1,qe h2 hb⟩),trivial⟩) Br.drew (fun f W W' h hb=>h.trans (hb.mono h.size)) ?_ ?_ ?_
  ·repeat' (with_reducible first|exact qx|refine qt ?_ ?_)
   all_goals try
    refine .inr ?_;intro A x W f' D G hf bn hx o DD K X;have a0:=D.2 0 (by decide);conv at a0=>rhs;whnf
    have a1:=D.2 1 (by decide);conv at a1=>rhs;whnf
    have a6:=D.2 6 (by decide);conv at a6=>rhs;whnf
    have y0:=(G.cell (p:=⟨bc,9,none⟩) az).trans e9;have y3:bc<W.heap.size:=by have:=G.size;omega
    simp only[QJ,QS]at DD;clear o D;go_simp
    exact X _ _ BR rfl
   any_goals exact .inl rfl
   all_goals refine .inr ?_
   ·intro A x W f' D G hf bn hx o DD K X;have g1:=gw D o 2 59;clear o D DD;exact qV 26 _ rfl bc 0 g1 149 _ #[.int .i64 t.k,.int .i64 t.d,.int .i64 t.f,.int .i64 t.p,.int .u32 t.l,.int .i64 t.i,.slice t.ka t.kl t.kc,.slice t.sa t.sl t.sc,.slice t.pa t.pl t.pc] (0,0) _ (bf.out W G) Tryz.underlying26 rfl (by kernel_rfl) (fun j hj=>qa8 _ _ _ _ _ _ _ _ _ hj) (X _ _ BR rfl)
   ·intro A x W f' D G hf bn hx o DD K X;have g1:=gw D o 3 60;have g2:=gw D o 7 64;have g3:=gw D o 9 66;have g4:=gw D o 10 67;clear o D DD;go_simp
    refine(aY.out W).mono ?_;rintro e w5 ⟨rfl,bI⟩;exact X _ _ bI rfl
   ·intro A x W f' D G hf bn hx o DD K X;clear o D DD;go_simp
    exact X _ _ (Br.alloc Nl _) ⟨W.heap.size,_,rfl,G.size,Wn W _,rfl⟩
  ·intro A x W D G hx o K X;have g7:NewAt Y.heap.size 96 6 (x 7) W:=o ⟨15,.data⟩ (by simp) rfl;have a7:A.tmps.getD 7 undef=x 7:=D.1 7 (by decide);have dq:=gw D o 13 69;clear o D;obtain⟨p',c,e7,ci,bu,dj⟩:=g7;refine wp_store_row 96 _ _ rfl p' #[.int .i64 ((row:Int)+1),.int .u64 (k:Nat),.int .u64 (F:Nat),.int .u64 (T:Nat),.bool la,.bool rt] (a7.trans e7) dq 96 c bu (by kernel_rfl) (by rw[dj];rfl) (by simp[Value.oneCell']) ?_;exact X _ _ (fun _=>rfl) (below_setRow G ci _) ⟨.inr (.inr (fun _ h=>h)),.inr (.inr (fun _ h=>h)),.inr (.inr (fun _ h=>h)),.inr (.inr (fun _ h=>h)),.inr (.inr (fun _ h=>h)),.inr (.inr (fun _ h=>h)),.inr (.inr (fun _ h=>h)),.inr (.inr (fun _ h=>h)),.inr (.inr (fun _ h=>h)),.inr (.inr (fun _ h=>h)),.inr (.inr (fun _ h=>h)),.inr (.inr (fun _ h=>h)),.inr (.inr (fun _ h=>h)),.inr (.inr (fun _ h=>h)),.inr (.inr (fun _ h=>h)),.inr (.inr (fun _ h=>NewAt.setRow h bu _ (by simp))),.inl rfl,.inr (.inl (by kernel_rfl)),trivial⟩ ⟨p',by rw[List.map_cons,List.map_nil,e7],ci,setRow_heap _ _ _ _ _ _ bu⟩
  intro x V G ah;obtain⟨e7,a8, -⟩:=ah;change NewAt Y.heap.size 96 6 (x 7) V at e7
  obtain⟨bq,cq,e7,dx, -, -⟩:=e7;obtain⟨dN,a8,cZ,aO⟩:=a8;simp only[List.map_cons,List.map_nil,e7,List.cons.injEq,Value.pointer.injEq,Option.some.injEq,Addr.mk.injEq,and_true]at a8;obtain rfl:=a8;refine qs ?_;simp only[Qx,Act.put,Ls,e7];have aZ:=I.out.below G;have cA:=hid (aH.out.trans (G.mono aq));have ch:=hid (ai.out.trans (MapK.of_below G));have c7:V.cell? ⟨bc,14,none⟩=some (.slice (some ⟨bm,0,none⟩) ((t.rowsOf total).length+1) ((t.rowsOf total).length+1)):=qa aZ.box 14;have vm:V.cell? ⟨bm,row,none⟩=some (.int .u64 ((i:Int)+1)):=by
   have h8:V.cell? ⟨bm,row,none⟩=some (.int .u64 (m1 row:Nat)):=(qa aZ.mad row).trans (qaW (by have:=J.out;omega));rw[ao.out]at h8;exact h8
  have vt:V.cell? ⟨bq,3,none⟩=some (.int .u64 (T:Nat)):=qa aO 3;have cP:bc<V.heap.size:=by have:=G.size;omega
  have cY:bm<V.heap.size:=by have:=G.size;omega
  have cQ:bq<V.heap.size:=(Ai aO).1;have cD:=hid aZ;have bD:B≤V.heap.size:=by have:=G.size;omega
  clear aZ G e7 aO dd em e9 az cX aq bf aY I aH ai dx cZ;generalize x 7=x7;go_upto_region 6 with(fail)
  go_quiet (fail)
  go_upto_if 80 with(fail)
  refine qj ?_;intro V2 cH;have aK:Below V.heap.size V V2:=by rw[cH];exact below_draws _ _ _
  have bS:=hid (cD.out.below aK);have aR:=hid (cA.out.trans (aK.mono bD));have aN:=hid (ch.out.trans (MapK.of_below aK));have cU:B≤V2.heap.size:=by have:=aK.size;omega
  clear cH aK cD cA ch c7 vm vt cP cY cQ bD;clear V;clear Y;by_cases bt:i+1<T
  case pos=>
   have b8:=hid bt;have hq:decide ((i:Int)+1<(T:Int))=true:=decide_eq_true (by omega);rw[hq];clear bt hq b7 aT cl cB bW cu dE bv cp bH bQ bK cg cF;go_wp2_with fail
   refine bodyPost_end (results_none rfl _ _ _) rfl ⟨rfl,aR.out,aN.out,m1,O1,cx,_,bS.out,fun r hr=>?_,fun r hr=>?_,.inl ⟨?_,rfl,?_,?_,?_⟩⟩
   ·rw[←aw.out];exact QP (by omega)
   ·rw[←bk.out];exact Yw (by omega)
   ·have h8:=au.out.le;rw[aG.out]at h8;have:=aE.out
    have:=b8.out
    omega
   ·rw[ao.out,aE.out]
   ·intro r h8 h9;by_cases e:r=row
    ·subst e;rw[ab.out,ao.out];exact⟨bg.out,by have:=c0.out;omega,by rw[aG.out];have:=b8.out;omega⟩
    ·rw[←aw.out,QP (by omega),QP e];exact HI.out r h8 h9
   ·intro r h8 h9;by_cases e:r=row
    ·subst e;rw[ab.out,ao.out,aQ.out]
    ·rw[←aw.out,←bk.out,QP (by omega),QP e,Yw (by omega)];exact HO.out r h8 h9
  have bX:T=i+1:=by have:=de.out;rw[aG.out]at this;omega
  have b6:=hid bX;have aI:decide ((i:Int)+1<(T:Int))=false:=decide_eq_false (by omega);rw[aI];clear aI bt bX cg;have U:=bS.out;have ag:=U.row (row+1) (by have:=J.out;omega);obtain⟨da,dc,eD⟩:=ZF ag;have c3:V2.cell? ⟨bc,13,none⟩=some (.slice (some ⟨bo,0,none⟩) ((t.rowsOf total).length+1) ((t.rowsOf total).length+1)):=qa U.box 13;have vo:V2.cell? ⟨bo,row+1,none⟩=some (.slice da (O1 (row+1)).length dc):=by
   rw[←eD,qa U.opn (row+1)];have:=U.len
   simp only[List.getElem?_toArray];rw[Lg,List.getElem?_eq_getElem (by have:=J.out;omega)];rfl
  have fo:=frozen_of_row V2 bo (row+1) _ _ U.opn;have cW:bc<V2.heap.size:=(Ai U.box).1;have cS:bo<V2.heap.size:=(Ai U.opn).1;have am:=U.setOpen (r:=row+1) (v':= .slice none 0 0) (ys:=[]) (W1:=V2) (by have:=J.out;omega) (Spare.refl _ _) (Wo _ _ _ _) (fun z hz=>by cases hz) (.inl rfl);have ak:=(But.refl bo V2).set (row+1) (.slice none 0 0);have cn:OwnB B (V2.setCell ⟨bo,row+1,none⟩ (.slice none 0 0)) (.slice da (O1 (row+1)).length dc) (O1 (row+1)):=by
   rw[eD]at ag;exact OwnB.kb (b:=0) ⟨U.byt (row+1) (by have:=J.out;omega),Zb ag⟩ (KB.of_but ak (Nat.zero_le _) (Nat.zero_le _) U.opn (by decide))
  have I:=hid am;have b9:=hid cn;have bP:=hid (aR.out.trans ((Below.refl B V2).setCell U.base.2.1 _:Below B V2 (V2.setCell ⟨bo,row+1,none⟩ (.slice none 0 0))));have dh:=hid (aN.out.trans (MapK.of_but ak U.opn));clear U ag am cn ak eD bS aR aN cU b7 aT cl cB bW cu bv cp bH bQ bK cF;have aT:(row:Int)+1<((t.rowsOf total).length:Int):=by have:=J.out;omega
  obtain⟨Dz,aW⟩:=Ex (O1 (row+1));rw[aW]at b9 vo;have dD:=hid aW;obtain⟨O2,bC⟩:=Ex (qc6 O1 (row+1) []);obtain⟨df,bs⟩:=Ex (cx.set (row+1) (.slice none 0 0));rw[bC,bs]at I;have bL:=hid bC;have cz:Dz.length≤1073741824:=by
   rw[←aW,aQ.out];have h8:=ZU (qG he) kz z1 z2 (L0:=L0) (by intro e;rw[e]at h0;unfold lvs at h0;simp at h0;omega) h1 total row k (i+1);have h9:=QV he kz z1 z2 h0 h1 row (by have:=J.out;omega);have:=hN row
   omega
  have di:=hid cz;clear aW bC bs cz;go_upto_region 9 with(fail)
  generalize V2.setCell ⟨bo,row+1,none⟩ (.slice none 0 0)=V3 at*;clear c3 vo fo cW cS;clear V2;have aa:=I.out.box;have e9:V3.cell? ⟨bc,9,none⟩=some (.int .u64 (total:Nat)):=qa aa 9;have az:bc<V3.heap.size:=(Ai aa).1;have aq:B≤V3.heap.size:=by have:=I.out.base.1;omega
  have db:row+1≤255:=by have:=J.out;omega
  obtain⟨hP, -⟩:=qcX hT.l ht he (row:=row+1) (at_:=k) (by have:=J.out;omega) bg.out;have aD:=fun(W:World) (hW:Below V3.heap.size V3 W)=>qdn t kz z1 z2 Dz total ht (row+1) k F T (by omega) la rt da dc W (hT.below (by rw[dA];exact HW.out.trans (bP.out.trans (hW.mono aq)))) hP db cR.out bM.out (b9.out.hold.below hW) di.out
  obtain⟨NZ,br⟩:=Ex (t.node kz z1 z2 (row+1) k la rt Dz);simp only[br,show((row+1:Nat):Int)=(row:Int)+1 by omega]at aD;have b0:NZ=Qi (t.lvlZ kz z1 z2 L0 (row+1)) (m1 (row+1)):=by
   rw[ab.out,au.out.node,dC.out,dF.out,aG.out,←br,←dD.out,aQ.out,b6.out]
  have cJ:=hid aD;have bG:=fun(W:World) (a4:Option Addr) (bi:Nat) (hW:Below V3.heap.size V3 W) (hz:OwnB B W (.slice a4 NZ.length bi) NZ)=>ih (row+1) (by have:=J.out;omega) m1 O2 df W a4 bi NZ (HW.out.trans (bP.out.trans (hW.mono aq))) (I.out.below hW) (fun r h8 h9=>by
    rw[←aw.out,QP (by omega),QP (by omega)];exact HI.out r (by omega) h9) (fun r h8 h9=>by
    rw[←bL.out,←bk.out,Yw (by omega),Yw (by omega),←aw.out,QP (by omega),QP (by omega)];exact HO.out r (by omega) h9) (by rw[ab.out];exact bg.out) b0 (.inr hz) (fun _=>hz)
  simp only[show((row+1:Nat):Int)=(row:Int)+1 by omega]at bG;have dp:=hid bG;have bf:=hid (fun(W:World) (hW:Below V3.heap.size V3 W)=>qe aa hW);clear bG aD br b0 hP ih aa;unfold TreeV.val at cJ;refine qA (n:=16) (w0:=V3) (B:=V3.heap.size) [.v 96 (.pointer (some ⟨bc,0,none⟩)),.v 97 (.int .i64 (row:Nat)),.v 98 (.int .i64 ((row:Int)+1)),.v 99 (.pointer (some ⟨bc,0,none⟩)),.v 100 (.pointer (some ⟨bc,0,none⟩)),.v 101 (.pointer (some ⟨bc,0,none⟩)),.v 102 (.agg #[.int .i64 t.k,.int .i64 t.d,.int .i64 t.f,.int .i64 t.p,.int .u32 t.l,.int .i64 t.i,.slice t.ka t.kl t.kc,.slice t.sa t.sl t.sc,.slice t.pa t.pl t.pc]),.v 103 (.pointer (some ⟨bc,0,none⟩)),.v 104 (.pointer (some ⟨bc,0,none⟩)),.v 105 (.pointer (some ⟨bc,9,none⟩)),.v 106 (.int .u64 (total:Nat)),.v 107 (.int .i64 (row:Nat)),.v 108 (.int .i64 ((row:Int)+1)),.v 109 (.int .u64 (k:Nat)),.v 110 (.slice da Dz.length dc),.p 111 (fun v W=>OwnB B W v NZ)] (by exact⟨(fun _ _ _ h hb=>OwnB.kb h (KB.of_below hb (Nat.zero_le _))),trivial⟩) Br.drew Nl ?_ ?_
  ·repeat' (with_reducible first|exact qx|refine qt ?_ ?_)
   all_goals try
    intro A x W D hB ba o DD K X;have a0:=D.2 0 (by decide);conv at a0=>rhs;whnf
    have a1:=D.2 1 (by decide);conv at a1=>rhs;whnf
    have a6:=D.2 6 (by decide);conv at a6=>rhs;whnf
    have a9:=D.2 9 (by decide);conv at a9=>rhs;whnf
    have y0:=(hB.cell (p:=⟨bc,9,none⟩) az).trans e9;have y3:bc<W.heap.size:=by have:=hB.size;omega
    simp only[QJ,QS]at DD;clear o D;go_simp
    exact X _ _ BR rfl
   ·intro A x W D hB ba o DD K X;have g1:=gv D o 5 101;clear o D DD;exact qV 26 _ rfl bc 0 g1 149 _ #[.int .i64 t.k,.int .i64 t.d,.int .i64 t.f,.int .i64 t.p,.int .u32 t.l,.int .i64 t.i,.slice t.ka t.kl t.kc,.slice t.sa t.sl t.sc,.slice t.pa t.pl t.pc] (0,0) _ (bf.out W hB) Tryz.underlying26 rfl (by kernel_rfl) (fun j hj=>qa8 _ _ _ _ _ _ _ _ _ hj) (X _ _ BR rfl)
   ·intro A x W D hB ba o DD K X;have g1:=gv D o 6 102;have g2:=gv D o 10 106;have g3:=gv D o 12 108;have g4:=gv D o 13 109;have g5:=gv D o 14 110;clear o D DD;go_simp
    refine(cJ.out W hB).mono ?_;rintro e w5 ⟨u,rfl,hu,bI⟩;exact X _ _ bI (hu.le (by omega))
  intro x W0 av ba ah;obtain⟨an, -⟩:=ah;change OwnB B W0 (x 111) NZ at an
  obtain⟨a4,bi,aS, -, -⟩:=an.hold.slice;rw[aS]at an;have dm:=hid an;have ck:=hid av;refine qo ?_;simp only[Qx,Act.put,Ls,aS];clear an aS av ba;go_wp2_with fail
  refine(dp.out W0 a4 bi ck.out dm.out).mono ?_;rintro e W9 ⟨rfl,cb,bh,m',O',du,c4,bl,cr,cK,bd⟩;have av:=ck.out;have dz:=hid (bP.out.trans ((av.mono aq).trans cb));have dy:=hid (dh.out.trans ((MapK.of_below av).trans bh));have dk:=hid bl;have cC:=hid cr;have cL:=hid cK;have dw:=hid bd;clear av cb bh bl cr cK bd;go_wp2_with fail
  refine qs ?_;go_wp2_with fail
  refine bodyPost_end (results_none rfl _ _ _) rfl ⟨rfl,dz.out,dy.out,m',O',du,c4,dk.out,fun r hr=>?_,fun r hr=>?_,?_⟩
  ·rw[cC.out r (by omega),←aw.out];exact QP (by omega)
  ·rw[cL.out r (by omega),←bL.out,Yw (by omega),←bk.out];exact Yw (by omega)
  have aM:m' row=i+1:=by rw[cC.out row (by omega)];exact ao.out
  have c8:t.toC total row k=i+1:=by rw[aG.out];exact b6.out
  rcases dw.out with⟨q1,q2,q3,q4,q5⟩|⟨q1,q2⟩
  ·rw[ab.out]at q1 q3;have cc:=qii hT.l he kz z1 z2 h0 h1 (r:=row) (i:=k+1) (by have:=J.out;omega) q1;have bJ:t.frC total row (k+1)=i+1:=by rw[au.out.next q1];exact c8
   have ct:=cc.lt;rw[bJ]at ct;refine .inl ⟨?_,q2,by rw[aM,aE.out],fun r h8 h9=>?_,fun r h8 h9=>?_⟩
   ·have h8:=cc.le;have:=aE.out
    omega
   ·by_cases e:r=row
    ·subst e;rw[q3,aM,bJ];exact⟨q1,Nat.le_refl _,ct⟩
    ·exact q4 r (by omega) h9
   ·by_cases e:r=row
    ·subst e;rw[q3,aM,cL.out (r+1) Nl,←bL.out,qbI,←bJ,TreeV.segC_self]
    ·exact q5 r (by omega) h9
  ·rw[ab.out]at q1;refine .inr ⟨?_,q2⟩;have h8:=au.out.last q1;have:=aE.out
   omega
end Go.Proofs.YthjoojnlnlmljaaGreat
namespace Go.Proofs.YthjoojnlnlmljaaGreat
open Go.ChangeShapes Go.WideShapes Go.ChangeAt Go.RowKit Go.Joins Go.Shelf Go.Maps
open Go.Lib (hid)
def qal (v:Value):Option (DataW Unit×List MemPlace):=match v with
 | .slice none n c=>some (.agg [.lit (.int .i64 0),.lit (.int .i64 (n:Nat)),.lit (.int .i64 (c:Nat))],[])
 | .slice (some ⟨b,o,none⟩) n c=>some (.agg [.lit (.int .i64 1),.lit (.int .i64 (b:Nat)),.lit (.int .i64 (o:Nat)),.lit (.int .i64 (n:Nat)),.lit (.int .i64 (c:Nat))],[])
 | _=>none
def encN:DataW Unit:= .agg [.lit (.int .i64 0),.lit (.int .i64 ((0:Nat):Int)),.lit (.int .i64 ((0:Nat):Int))]
theorem qdJ {v v':Value}{d:DataW Unit}{D q:List MemPlace}(h:qal v=some (d,D))(o:qal v'=some (d,q)):v=v':=by
 unfold qal at h o;split at h<;>split at o
 all_goals first
  | (cases h;done)
  | (cases o;done)
  | skip
 all_goals
  simp only[Option.some.injEq,Prod.mk.injEq]at h o;obtain⟨rfl, -⟩:=h;have e:=o.1;simp at e
 ·simp only[Value.slice.injEq,true_and];omega
 ·simp only[Value.slice.injEq,Option.some.injEq,Addr.mk.injEq,and_true];omega
theorem JE:Keyed Tryz.prog 3:=int_keyed Tryz.underlying3
theorem qcL (j:Nat)(o:(j:Int)≤9223372036854775807):keyOf Tryz.prog 3 (.int .i64 (j:Nat))=some (.int .i64 (j:Nat)):=keyOf_int_mk Tryz.underlying3 (WalkArith.wf_i64 (by omega))
theorem qfz (w:World):(zeroValue 24).run Tryz.prog w= .ok (.slice none 0 0) w:=by kernel_rfl
def MapIs (W:World)(b n:Nat)(S:Nat→Option Value):Prop:=
 ∃D:DataW Unit,W.ownsMap Tryz.prog 3 qal b n D∧ ∀j:Nat,(j:Int)≤9223372036854775807→Maps.has D (.int .i64 (j:Nat))=(S j).isSome∧ ∀v,S j=some v→qal v=some (D.atKey (.int .i64 (j:Nat)) encN,[])
theorem MapIs.keep {W W':World}{b n:Nat}{S:Nat→Option Value}(h:MapIs W b n S)(k:MapK W W'):MapIs W' b n S:=by
 obtain⟨D,⟨G,I,J,o⟩,q⟩:=h;exact⟨D,⟨G,I,k b _ J trivial,o⟩,q⟩
theorem MapIs.blockM {W:World}{b n:Nat}{S:Nat→Option Value}(h:MapIs W b n S): ∃o q,W.heap[b]? =some (.map o q):=by
 obtain⟨D,⟨o,q,G,I⟩,J⟩:=h;exact⟨o,q,G⟩
theorem qcK {i j:Nat}(h:i≠j):Lit.int .i64 (i:Nat)≠Lit.int .i64 (j:Nat):=fun e=>by
 simp at e
 exact h (by omega)
theorem qd2 {w:World}{ops:Array Oper}{V:List Oper}{o:Oper}{a:Act}{Q:Exit→Act→World→Prop}(hg:o.guard=none)(m x v:Operand)(aa:o.op=Op.mapUpdate 147 m x v)(b n:Nat)(S:Nat→Option Value)(hm:a.eval m= .map (some b))(h:MapIs w b n S)(hn:n<1048576)
  (j:Nat) (hj:(j:Int)≤9223372036854775807) (val:Value) (d:DataW Unit) (hx:a.eval x= .int .i64 (j:Nat)) (hv:a.eval v=val) (G:qal val=some (d,[]))
  (hK: ∀w',MapIs w' b (n+1) (fun q=>if q=j then some val else S q)→w.grownBy w' (some b)→wpList Tryz.prog ops Q V (a.put o.dst undef) w'):wpList Tryz.prog ops Q (o::V) a w:=by
 obtain⟨D,Z,hS⟩:=h;refine wpList_mapUpdate_own w hg m x v _ aa 3 24 JE Tryz.underlying147 qal b n D hm Z (by unfold maxLen;omega) _ _ _ hx hv (qcL j hj) d [] G fun w' h1 h2=>hK w' ⟨_,h1,fun q X=>?_⟩ h2
 have J:IsMap D:=by obtain⟨es,ck,k1,k2,k3,k4⟩:=Z;exact⟨_,k4⟩
 have U:WideAt.IsKeyLit (Lit.int .i64 (j:Nat)):=trivial;dsimp only;by_cases e:q=j
 ·subst e;rw[if_pos rfl,has_put_same J U];refine⟨rfl,fun Y I=>?_⟩;obtain rfl:=Option.some.inj I;rw[atKey_put_same J U];exact G
 ·rw[if_neg e,has_put_other (qcK e)];refine⟨(hS q X).1,fun Y I=>?_⟩;rw[atKey_put_other (qcK e)];exact(hS q X).2 Y I
theorem qc3 {w:World}{ops:Array Oper}{I:List Oper}{o:Oper}{a:Act}{Q:Exit→Act→World→Prop}(hg:o.guard=none)(m x:Operand)(V:o.op=Op.call { callee:=Callee.builtin Builtin.delete,args:= #[m,x],argTypes:= #[147,3] })(b n:Nat)(S:Nat→Option Value)(hm:a.eval m= .map (some b))(h:MapIs w b n S)
  (j:Nat) (hj:(j:Int)≤9223372036854775807) (hx:a.eval x= .int .i64 (j:Nat))
  (Z: ∀w',MapIs w' b n (fun q=>if q=j then none else S q)→w.mapTurned w' b→wpList Tryz.prog ops Q I (a.put o.dst (.tuple #[])) w'):wpList Tryz.prog ops Q (o::I) a w:=by
 obtain⟨D,hD,X⟩:=h;refine wpList_delete_own w hg m x _ _ V 24 JE Tryz.underlying147 qal b n D hm hD _ _ hx (qcL j hj) fun w' h1 Y=>Z w' ⟨_,h1,fun q J=>?_⟩ Y
 dsimp only;by_cases e:q=j
 ·subst e;rw[if_pos rfl,has_del_same];exact⟨rfl,fun U G=>by cases G⟩
 ·rw[if_neg e,has_del_other (qcK e)];refine⟨(X q J).1,fun U G=>?_⟩;rw[atKey_del_other (qcK e)];exact(X q J).2 U G
theorem qfc {D:DataW Unit}{k:Lit}(h:Maps.has D k=false)(z:DataW Unit):D.atKey k z=z:=by
 cases D<;>try rfl
 rename_i o;unfold DataW.atKey;have q:o.any (fun p=>p.1.sameKey k)=false:=h;have G:o.find? (fun p=>p.1.sameKey k)=none:=List.find?_eq_none.2 (fun p I=>by have:=List.any_eq_false.1 q p I;simpa using this);simp only[G]
theorem qhz {w:World}{o:Oper}{a:Act}{K:Act→World→Prop}{Q:Exit→Act→World→Prop}(m x:Operand)(X:o.op=Op.lookup 147 m x true)(b n:Nat)(S:Nat→Option Value)(hm:a.eval m= .map (some b))(h:MapIs w b n S)
  (j:Nat) (V:(j:Int)≤9223372036854775807) (hx:a.eval x= .int .i64 (j:Nat))
  (Z:K (a.put o.dst (.tuple #[(S j).getD (.slice none 0 0),.bool (S j).isSome])) w):o.wp Tryz.prog a w K Q:=by
 obtain⟨D,hD,hS⟩:=h;have U:qal (.slice none 0 0)=some (encN,[]):=rfl;obtain⟨v,ps,q,G⟩:=hD.look_ok JE Tryz.underlying147 (qfz w) U (qcL j V);obtain⟨I,Y⟩:=hS j V;have J:v=(S j).getD (.slice none 0 0):=by
  cases hs:S j with
  | none=>
   rw[hs]at I;rw[qfc I]at G;exact qdJ G U
  | some u=>exact qdJ G (Y u hs)
 rw[I,J]at q;unfold Oper.wp;simp[execOp,X,hm,hx,q,Result.andThen]
 exact Z
theorem QU {W W':World}{b:Nat}(h:W.grownBy W' (some b)){q:Nat}{o:Obj}(G:W.heap[q]? =some o)(D:q≠b):W'.heap[q]? =some o:=(h.block q (Ai G).1 (fun e=>D (Option.some.inj e))).trans G
theorem CombS.grown {t:TreeV}{total B bc bo bm n I:Nat}{rv mv:Value}{next:Int}{m:Nat→Nat}{O:Nat→List Int}{W W':World}{os:List Value}{dv:Value}(h:CombS t total B bc bo bm n rv mv next m O W os dv)(D:W.grownBy W' (some I))(G: ∃V X,W.heap[I]? =some (.map V X)):CombS t total B bc bo bm n rv mv next m O W' os dv:=by
 obtain⟨V,X,G⟩:=G;have o: ∀(q:Nat) (c:Array Value) (T:TypeId) (fr:Nat×Nat),W.heap[q]? =some (.cells c T fr)→q≠I:=fun q c T fr U e=>by rw[e,G]at U;cases U
 refine⟨QU D h.box (o _ _ _ _ h.box),QU D h.opn (o _ _ _ _ h.opn),h.len,QU D h.mad (o _ _ _ _ h.mad),fun r Y=>yC (h.row r Y) (fun g S=>?_),h.byt,h.sep,h.base⟩;obtain⟨c,J⟩:=z6 (h.row r Y) g S;exact(QU D J (o _ _ _ _ J)).trans J.symm
theorem OwnB.grownM {B I:Nat}{W W':World}{v:Value}{z:List Int}(h:OwnB B W v z)(V:W.grownBy W' (some I))(q: ∃G S,W.heap[I]? =some (.map G S)):OwnB B W' v z:=by
 obtain⟨G,S,q⟩:=q;refine⟨h.1,?_⟩;rcases h.2 with o|⟨g,D,J,e,X,o,U⟩
 ·exact .inl o
 ·exact .inr ⟨g,D,J,e,X,QU V o (fun e=>by rw[e,q]at o;cases o),U⟩
def ZV (t:TreeV)(kz z1 z2:List Int)(total:Nat)(L0:List (List Int))(B bc bo bm bw cnt:Nat)(ra:Option Addr)(rc:Nat)(sv:Nat→Value)(A:List Nat)(q:Nat)(W:World):Prop:=
 ∃m O os dv S,CombS t total B bc bo bm ((t.rowsOf total).length+1) (.slice ra (t.rowsOf total).length rc) (.map (some bw)) (q:Int) m O W os dv∧MapIs W bw cnt S∧B≤bw∧(∀j,S j=if j∈A∧q≤j then some (sv j) else none)∧
  ((q<nth (t.rowsOf total) 0∧dv= .slice none 0 0∧m 0=q∧qhu t total 0 m∧ ∀r,r+1<(t.rowsOf total).length→O (r+1)=t.segC kz z1 z2 L0 total r (m (r+1)) (m r))∨
   (q=nth (t.rowsOf total) 0∧OwnB B W dv (Qi (t.lvlZ kz z1 z2 L0 ((t.rowsOf total).length - 1)) 0)))
end Go.Proofs.YthjoojnlnlmljaaGreat
namespace Go.Proofs.YthjoojnlnlmljaaGreat
open Go.ChangeShapes Go.WideShapes Go.ChangeAt Go.RowKit Go.Joins Go.Shelf Go.Maps
open Go.Lib (hid)
attribute [local go_sem] Oper.semAt_some
def qdw (bc:Nat)(W:World):Nat:=match W.cell? ⟨bc,12,none⟩with|some (.int _ z)=>z.toNat|_=>0
theorem qe0 (t:TreeV)(kz z1 z2:List Int)(total:Nat)(ht:(total:Int)≤18446744073709551615)(he:t.err total=0)(L0:List (List Int))(h0:L0.length=lvs total t.ln)(h1: ∀z∈L0,z.length≤64)(hN: ∀r,nth (t.rowsOf total) r≤1048576)(B bc bo bm I:Nat)(ra:Option Addr)(rc:Nat)(w0:World)(aZ:w0.heap.size=B)(hT:TreeOk t kz z1 z2 w0)
  (sv:Nat→Value) (sa:Nat→Option Addr) (sc:Nat→Nat) (ab: ∀j,j<nth (t.rowsOf total) 0→sv j= .slice (sa j) (Qi L0 j).length (sc j)∧Hold w0 (sv j) (Qi L0 j)∧(∀b,(sv j).ownBlock=some b→b<B)∧ ∃d,qal (sv j)=some (d,[]))
  (A:List Nat) (o q0 X:Nat) (aK:o<nth (t.rowsOf total) 0) (be:o∉A) (hA: ∀j∈A,j<nth (t.rowsOf total) 0) (bh: ∀j,j<q0→j∈A) (bp:q0∉A) (hc:X<1048576) (W:World) (hW:Below B w0 W) (hF:ZV t kz z1 z2 total L0 B bc bo bm I X ra rc sv A q0 W):
  Calls Tryz.prog 80 #[.pointer (some ⟨bc,0,none⟩),.int .i64 (o:Nat),sv o] W fun e W'=>e= .returned (.tuple #[])∧Below B W W'∧ ∃q,ZV t kz z1 z2 total L0 B bc bo bm I (X+1) ra rc sv (o::A) q W'∧(∀j,j<q→j∈o::A)∧q∉o::A:=by
 obtain⟨m,O,os,dv,S,hC,hM,bk,hS,ae⟩:=hF;obtain⟨aQ,bx,bP,dd,aL⟩:=ab o aK;have bH:=(qM he).len;have aX:=fun(next:Int) (m:Nat→Nat) (O:Nat→List Int) (os:List Value) (V:World) (q:Nat) (hq:q<nth (t.rowsOf total) 0) (J:Below B w0 V) (hC:CombS t total B bc bo bm ((t.rowsOf total).length+1) (.slice ra (t.rowsOf total).length rc) (.map (some I)) next m O V os (.slice none 0 0)) (hm:m 0=q) (hI:qhu t total 0 m) (hO: ∀r,r+1<(t.rowsOf total).length→O (r+1)=t.segC kz z1 z2 L0 total r (m (r+1)) (m r))=>
  up_ok t kz z1 z2 total ht he L0 h0 h1 hN B bc bo bm ra rc (.map (some I)) next w0 aZ hT rfl ((t.rowsOf total).length - 1) 0 (by omega) m O os V (sa q) (sc q) (Qi L0 q) J hC hI (fun r _ h=>hO r h) (by rw[hm];exact hq) (by rw[hm];rfl) (.inl ⟨by rw[←(ab q hq).1];exact(ab q hq).2.1.below (aZ▸J),by rw[←(ab q hq).1];exact(ab q hq).2.2.1⟩) (fun h=>by omega)
 have bT:=hid aX;have a7:=hid ab;have HW:=hid hW;have HC:=hid hC;have HM:=hid hM;have HS:=hid hS;have ad:=hid ae;have bQ:=hid be;have HA:=hid hA;have aY:=hid bh;have b0:=hid bp;have bU:=hid aK;have ai:=hid bk;have ay:=hid hC.base;have bt:(o:Int)≤9223372036854775807:=by have:=hN 0;omega
 have Z:=hC.box;have ac:W.cell? ⟨bc,11,none⟩=some (.map (some I)):=qa Z 11;have G:bc<W.heap.size:=(Ai Z).1;obtain⟨N0,ar⟩:=Ex (nth (t.rowsOf total) 0);have bX:N0≤1048576:=by have:=hN 0;omega
 have bN:=hid aQ;clear hC hM hS ae be hA bh bp aK hW Z bx bP ab aX bk bH h0 h1 hN ht;rw[aQ];rw[aQ]at aL;go_enter Tryz.func80,Tryz.ntmps80
 go_upto_region 1 with(at_mapUpdate;refine qd2 rfl _ _ _ rfl I X S rfl HM.out hc o bt _ dd rfl rfl aL ?_;intro w1 aW ap)
 have af: ∃es ck,W.heap[I]? =some (.map es ck):=HM.out.blockM;have bj:=HC.out.grown ap af;have bf: ∀D,OwnB B W dv D→OwnB B w1 dv D:=fun D h=>h.grownM ap af
 have aT:Below B W w1:=(Below.refl B W).grown ap (by have:=ay.out.1;omega) (fun k hk=>by cases hk;exact ai.out);have aS: ∀j,(if j=o then some (.slice (sa o) (Qi L0 o).length (sc o)) else S j)=if j∈o::A∧q0≤j then some (sv j) else none:=fun j=>by
  by_cases e:j=o
  ·subst e;have h8:q0≤j:=by
    rcases Nat.lt_or_ge j q0 with h|h
    ·exact absurd (aY.out j h) bQ.out
    ·exact h
   rw[if_pos rfl,if_pos ⟨List.mem_cons_self,h8⟩,bN.out]
  ·rw[if_neg e,HS.out j];simp[e]
 have aU:ZV t kz z1 z2 total L0 B bc bo bm I (X+1) ra rc sv (o::A) q0 w1:=by
  refine⟨m,O,os,dv,_,bj,aW,ai.out,aS,?_⟩;rcases ad.out with h|h
  ·exact .inl h
  ·exact .inr ⟨h.1,bf _ h.2⟩
 have aI:=hid aU;have al:=hid aT;have aA:=hid (show ∀j∈o::A,j<N0 from fun j hj=>by
  rcases List.mem_cons.1 hj with h|h
  ·rw[h,←ar];exact bU.out
  ·rw[←ar];exact HA.out j h)
 have HQ:=hid (show ∀j,j<q0→j∈o::A from fun j hj=>List.mem_cons_of_mem _ (aY.out j hj));have ag:=hid ar;obtain⟨A1,aC⟩:=Ex (o::A);rw[aC]at aI aA HQ;have an:=hid aC;clear af bj bf aT aS aU aW ap HC HM HS ad ac G aL aC ar;go_frame
 go_loopw [6,7] (fun _ _ V=> ∃q,ZV t kz z1 z2 total L0 B bc bo bm I (X+1) ra rc sv A1 q V∧(∀j,j<q→j∈A1)∧Below B W V) (fun _ _ V=>N0+1 - qdw bc V)
 case atStart=>exact⟨q0,aI.out,HQ.out,al.out⟩
 case round=>
  clear aI al HQ;clear w1;obtain⟨q,⟨m,O,os,dv,S,hC,hM, -,hS,ae⟩,hq,hb⟩:=hrel;have bZ:q≤N0:=by
   rcases ae with h|h
   ·rw[←ag.out];omega
   ·rw[←ag.out];omega
  have bs:(q:Int)≤9223372036854775807:=by omega
  obtain⟨vq,aJ⟩:=Ex ((S q).getD (.slice none 0 0));obtain⟨ok,bn⟩:=Ex ((S q).isSome);have Z:=hC.box;have ac:wr.cell? ⟨bc,11,none⟩=some (.map (some I)):=qa Z 11;have aa:wr.cell? ⟨bc,12,none⟩=some (.int .i64 (q:Nat)):=qa Z 12;have G:bc<wr.heap.size:=(Ai Z).1;have ah:qdw bc wr=q:=by unfold qdw;rw[aa];simp
  have bA:=hid ah;have bK: ∃xa xn xc,vq= .slice xa xn xc:=by
   rw[←aJ,hS q];by_cases h8:q∈A1∧q≤q
   ·rw[if_pos h8];exact⟨_,_,_,(a7.out q (by rw[ag.out];exact aA.out q h8.1)).1⟩
   ·rw[if_neg h8];exact⟨_,_,_,rfl⟩
  obtain⟨xa,xn,xc,rfl⟩:=bK;have HC:=hid hC;have HM:=hid hM;have HS:=hid hS;have ad:=hid ae;have HQ:=hid hq;have HB:=hid hb;have ba:=hid aJ;have aO:=hid bn;clear hC hM hS ae hq hb aJ bn Z ah;go_upto_region 1 with(fail)
  refine qA (n:=14) (w0:=wr) (B:=wr.heap.size) [.v 15 (.pointer (some ⟨bc,0,none⟩)),.v 16 (.pointer (some ⟨bc,0,none⟩)),.v 17 (.pointer (some ⟨bc,11,none⟩)),.v 18 (.map (some I)),.v 19 (.pointer (some ⟨bc,0,none⟩)),.v 20 (.pointer (some ⟨bc,0,none⟩)),.v 21 (.pointer (some ⟨bc,12,none⟩)),.v 22 (.int .i64 (q:Nat)),.v 23 (.tuple #[.slice xa xn xc,.bool ok]),.v 14 (.tuple #[.slice xa xn xc,.bool ok]),.v 24 (.slice xa xn xc),.v 25 (.bool ok),.v 6 (.slice xa xn xc),.v 7 (.bool ok)] trivial Br.drew Nl ?_ ?_
  ·repeat' (with_reducible first|exact qx|refine qt ?_ ?_)
   all_goals try
    intro AA x V hA J aw U D K hK;have a0:=hA.2 0 (by decide);conv at a0=>rhs;whnf
    have y0:=(J.cell (p:=⟨bc,11,none⟩) G).trans ac;have y1:=(J.cell (p:=⟨bc,12,none⟩) G).trans aa;have y3:bc<V.heap.size:=by omega
    simp only[QJ,QS]at D;clear U hA;go_simp
    exact hK _ _ BR rfl
   intro AA x V hA J aw U _ K hK;have g1:=gv hA U 3 18;have g2:=gv hA U 7 22;clear U hA;refine qhz _ _ rfl I (X+1) S g1 (HM.out.keep (MapK.of_below J)) q bs g2 ?_;rw[ba.out,aO.out];exact hK _ _ BR rfl
  intro x V J aw ao;clear ao;refine qs ?_;simp only[Qx,Act.put,Ls];have au:=hid (HC.out.below J);have aN:=hid (HM.out.keep (MapK.of_below J));have aE:=hid (HB.out.trans (J.mono (by have:=ay.out.1;omega)));have bq:=hid (show ∀D,OwnB B wr dv D→OwnB B V dv D from fun D h=>h.kb (KB.of_below J (Nat.zero_le _)));clear J aw HC HM HB ac aa G;by_cases Y:q∈A1
  case neg=>
   have bD:ok=false:=by rw[←aO.out,HS.out q,if_neg (fun h=>Y h.1)];rfl
   have aG:=hid Y;subst bD;clear Y;go_wp2_with fail
   refine Bp (results_none rfl _ _ _) rfl ⟨rfl,aE.out,q,⟨m,O,os,dv,S,au.out,aN.out,ai.out,by rw[an.out];exact HS.out,?_⟩,by rw[an.out];exact HQ.out,by rw[an.out];exact aG.out⟩;rcases ad.out with h|h
   ·exact .inl h
   ·exact .inr ⟨h.1,bq.out _ h.2⟩
  case pos=>
   have bz:ok=true:=by rw[←aO.out,HS.out q,if_pos ⟨Y,Nat.le_refl _⟩];rfl
   have aB:Value.slice xa xn xc=sv q:=by rw[←ba.out,HS.out q,if_pos ⟨Y,Nat.le_refl _⟩];rfl
   subst bz;rw[(a7.out q (by rw[ag.out];exact aA.out q Y)).1]at aB;simp only[Value.slice.injEq]at aB;obtain⟨rfl,rfl,rfl⟩:=aB;have bO:=aA.out q Y;have aG:=hid Y;obtain⟨bL,a6,aV,a4⟩:dv= .slice none 0 0∧m 0=q∧qhu t total 0 m∧ ∀r,r+1<(t.rowsOf total).length→O (r+1)=t.segC kz z1 z2 L0 total r (m (r+1)) (m r):=by
    rcases ad.out with h|h
    ·exact h.2
    ·have:=ag.out;omega
   subst bL;have aP:=hid a6;have bM:=hid aV;have bF:=hid a4;clear a6 aV a4 Y ad bq;have av:=au.out.box;have ac:V.cell? ⟨bc,11,none⟩=some (.map (some I)):=qa av 11;have aa:V.cell? ⟨bc,12,none⟩=some (.int .i64 (q:Nat)):=qa av 12;have G:bc<V.heap.size:=(Ai av).1;clear av;go_upto_region 3 with(fail)
   refine qA (n:=8) (w0:=V) (B:=V.heap.size) [.v 28 (.pointer (some ⟨bc,0,none⟩)),.v 29 (.pointer (some ⟨bc,0,none⟩)),.v 30 (.pointer (some ⟨bc,11,none⟩)),.v 31 (.map (some I)),.v 32 (.pointer (some ⟨bc,0,none⟩)),.v 33 (.pointer (some ⟨bc,0,none⟩)),.v 34 (.pointer (some ⟨bc,12,none⟩)),.v 35 (.int .i64 (q:Nat))] trivial Br.drew Nl ?_ ?_
   ·repeat' (with_reducible first|exact qx|refine qt ?_ ?_)
    all_goals
     intro AA x V1 hA J aw U D K hK;have a0:=hA.2 0 (by decide);conv at a0=>rhs;whnf
     have y0:=(J.cell (p:=⟨bc,11,none⟩) G).trans ac;have y1:=(J.cell (p:=⟨bc,12,none⟩) G).trans aa;have y3:bc<V1.heap.size:=by omega
     simp only[QJ,QS]at D;clear U hA;go_simp
     exact hK _ _ BR rfl
   intro x V1 ax bu ao;clear ao;have aM:=hid (aN.out.keep (MapK.of_below ax));have aD:=hid (au.out.below ax);have al:=hid (aE.out.trans (ax.mono (by have:=ay.out.1;omega)));refine qo ?_;simp only[Qx,Act.put,Ls];clear ax bu ac aa G au aN aE;go_wp2_with (at_delete;refine qc3 rfl _ _ rfl I (X+1) S rfl aM.out q bs rfl ?_;intro w2 a5 aj)
   refine qs ?_;have aH:=aj.grown;have af:=aM.out.blockM;have am:=aD.out.grown aH af;have aR:B≤V1.heap.size:=by have:=ay.out.1;have:=(Ai aD.out.box).1;omega
   have br:Below B W w2:=al.out.grown aH aR (fun k hk=>by cases hk;exact ai.out);have aa:w2.cell? ⟨bc,12,none⟩=some (.int .i64 (q:Nat)):=qa am.box 12;have bS:=frozen_of_row w2 bc 12 _ _ am.box;have G:bc<w2.heap.size:=(Ai am.box).1;have bY:IntKind.i64.wrap ((q:Int)+1)=(q:Int)+1:=by rw[IntKind.wrap_i64]<;>omega
   have ak:=hid am;have bg:=hid br;have bl:=hid a5;clear aj aH af am br a5 aM aD al aR;go_upto_region 5 with(fail)
   have aF:=(But.refl bc w2).set 12 (.int .i64 ((q:Int)+1));have bi:(w2.setCell ⟨bc,12,none⟩ (.int .i64 ((q:Int)+1))).heap[bc]? =some (.cells (Jl t total (.slice ra (t.rowsOf total).length rc) (.map (some I)) ((q:Int)+1) ((t.rowsOf total).length+1) bo bm (.slice none 0 0)) 149 (0,0)):=block_setCell ak.out.box _;have bV:=hid (ak.out.setBox aF bi);have a8:=hid (bg.out.setCell ak.out.base.1 (.int .i64 ((q:Int)+1)):Below B W (w2.setCell ⟨bc,12,none⟩ (.int .i64 ((q:Int)+1))));have bG:=hid (bl.out.keep (MapK.of_but aF ak.out.box));clear aF bi ak bg bl aa bS G;generalize w2.setCell ⟨bc,12,none⟩ (.int .i64 ((q:Int)+1))=w3 at*;go_wp2_with fail
   refine(bT.out ((q:Int)+1) m O os w3 q (by rw[ag.out];exact bO) (HW.out.trans a8.out) bV.out aP.out bM.out bF.out).mono ?_;rintro e W4 ⟨rfl,bd,bb,m',O',bJ,bC,az,bE,bI,aq⟩;have a9:=a8.out.trans bd;have a3:=bG.out.keep bb;have ah:qdw bc W4=q+1:=by
    have h8:W4.cell? ⟨bc,12,none⟩=some (.int .i64 ((q:Int)+1)):=qa az.box 12;unfold qdw;rw[h8];show((q:Int)+1).toNat=q+1;omega
   rw[show(q:Int)+1=((q+1:Nat):Int) by omega]at az;have bW:=hid (show ZV t kz z1 z2 total L0 B bc bo bm I (X+1) ra rc sv A1 (q+1) W4 from⟨m',O',bJ,bC,_,az,a3,ai.out,fun j=>by
     by_cases e:j=q
     ·rw[if_pos e,if_neg (fun h=>by omega)]
     ·rw[if_neg e,HS.out j];by_cases h8:j∈A1∧q≤j
      ·rw[if_pos h8,if_pos ⟨h8.1,by omega⟩]
      ·rw[if_neg h8,if_neg (fun h=>h8 ⟨h.1,by omega⟩)],by
     rcases aq with⟨q1,q2,q3,q4,q5⟩|⟨q1,q2⟩
     ·rw[aP.out]at q1 q3;exact .inl ⟨q1,q2,q3,q4,fun r hr=>q5 r (Nat.zero_le _) hr⟩
     ·rw[aP.out]at q1;exact .inr ⟨q1,q2⟩⟩)
   have bR:=hid a9;have bv:=hid ah;clear a9 a3 ah az bE bI aq bb bd;go_wp2_with fail
   refine⟨⟨q+1,bW.out,fun j hj=>?_,bR.out⟩,by rw[bv.out,bA.out];omega⟩;by_cases e:j=q
   ·rw[e];exact aG.out
   ·exact HQ.out j (by omega)
def MapV (B:Nat)(v:Value)(W:World):Prop:= ∃b,v= .map (some b)∧B≤b∧W.heap[b]? =some (.map #[] 0)
def OpnV (B n:Nat)(v:Value)(W:World):Prop:= ∃b,v= .slice (some ⟨b,0,none⟩) n n∧B≤b∧W.heap[b]? =some (.cells (List.replicate n (Value.slice none 0 0)).toArray 24 (0,0))
def MadV (B n:Nat)(v:Value)(W:World):Prop:= ∃b,v= .slice (some ⟨b,0,none⟩) n n∧B≤b∧W.heap[b]? =some (.cells (j9 (fun _=>0) n) 44 (0,0))
def StrV (t:TreeV)(total B n:Nat)(rv:Value)(v:Value)(W:World):Prop:= ∃bo bm bw,v= .agg (Jl t total rv (.map (some bw)) 0 n bo bm (.slice none 0 0))∧MapV B (.map (some bw)) W∧OpnV B n (.slice (some ⟨bo,0,none⟩) n n) W∧MadV B n (.slice (some ⟨bm,0,none⟩) n n) W
def PtrV (t:TreeV)(total B n:Nat)(rv:Value)(v:Value)(W:World):Prop:= ∃bc bo bm bw,v= .pointer (some ⟨bc,0,none⟩)∧B≤bc∧W.heap[bc]? =some (.cells (Jl t total rv (.map (some bw)) 0 n bo bm (.slice none 0 0)) 149 (0,0))∧MapV B (.map (some bw)) W∧OpnV B n (.slice (some ⟨bo,0,none⟩) n n) W∧MadV B n (.slice (some ⟨bm,0,none⟩) n n) W
theorem MapV.below {B:Nat}{v:Value}{W W':World}(h:MapV B v W)(q:Below W.heap.size W W'):MapV B v W':=by
 obtain⟨b,e,D,o⟩:=h;exact⟨b,e,D,qe o q⟩
theorem OpnV.below {B n:Nat}{v:Value}{W W':World}(h:OpnV B n v W)(q:Below W.heap.size W W'):OpnV B n v W':=by
 obtain⟨b,e,D,o⟩:=h;exact⟨b,e,D,qe o q⟩
theorem MadV.below {B n:Nat}{v:Value}{W W':World}(h:MadV B n v W)(q:Below W.heap.size W W'):MadV B n v W':=by
 obtain⟨b,e,D,o⟩:=h;exact⟨b,e,D,qe o q⟩
theorem StrV.below {t:TreeV}{total B n:Nat}{rv v:Value}{W W':World}(h:StrV t total B n rv v W)(o:Below W.heap.size W W'):StrV t total B n rv v W':=by
 obtain⟨bo,bm,G,e,I,q,D⟩:=h;exact⟨bo,bm,G,e,I.below o,q.below o,D.below o⟩
theorem PtrV.below {t:TreeV}{total B n:Nat}{rv v:Value}{W W':World}(h:PtrV t total B n rv v W)(o:Below W.heap.size W W'):PtrV t total B n rv v W':=by
 obtain⟨bc,bo,bm,S,e,J,I,D,q,G⟩:=h;exact⟨bc,bo,bm,S,e,J,qe I o,D.below o,q.below o,G.below o⟩
theorem qeM (t:TreeV)(total G:Nat)(aI:G≤255)(Y:Option Addr)(Z:Nat)(w:World):
  Calls Tryz.prog 79 #[t.val,.int .u64 (total:Nat),.slice Y G Z] w fun e w'=>(∃v,e= .returned v∧PtrV t total w.heap.size (G+1) (.slice Y G Z) v w')∧Below w.heap.size w w':=by
 obtain⟨U,ac⟩:=Ex w.heap.size;obtain⟨ib,al,ao,an,am⟩:=info_parts Za;obtain⟨iu,af,ap,ai,aj⟩:=info_parts ZL;have aa:=fun W:World=>run_make (P:=Tryz.prog) W 67 24 ib (.slice none 0 0) Tryz.underlying67 al ao .i64 .i64 ((G:Int)+1) ((G:Int)+1) (by omega) (by omega) (by rw[am];omega) (by omega)
 have ab:=fun W:World=>run_make (P:=Tryz.prog) W 105 44 iu (.int .u64 0) Tryz.underlying105 af ap .i64 .i64 ((G:Int)+1) ((G:Int)+1) (by omega) (by omega) (by rw[aj];omega) (by omega)
 simp only[an,ai,show((G:Int)+1).toNat=G+1 by omega,Nat.mul_one]at aa ab;have ak:madeCells (Value.slice none 0 0).cells (G+1)=(List.replicate (G+1) (Value.slice none 0 0)).toArray:=by
  apply Array.toList_inj.1
  exact toList_madeCells_one _ _
 have ag:madeCells (Value.int .u64 0).cells (G+1)=j9 (fun _=>0) (G+1):=by
  apply Array.toList_inj.1
  refine(toList_madeCells_one _ _).trans ?_;unfold j9;rw[List.map_const',List.length_range];rfl
 rw[ak]at aa;rw[ag]at ab;have ax:= @run_makeMap Tryz.prog;have aF:(G:Int)≤255:=by omega
 have aD:IntKind.i64.wrap ((G:Int)+1)=(G:Int)+1:=by rw[IntKind.wrap_i64]<;>omega
 clear ak ag al ao an am af ap ai aj;unfold TreeV.val;go_enter Tryz.func79,Tryz.ntmps79
 go_upto_region 1 with(fail)
 refine qj ?_;intro wA ae;have ah:wA.heap[U]? =some (.cells #[.int .i64 t.k,.int .i64 t.d,.int .i64 t.f,.int .i64 t.p,.int .u32 t.l,.int .i64 t.i,.slice t.ka t.kl t.kc,.slice t.sa t.sl t.sc,.slice t.pa t.pl t.pc] 26 (0,0)):=by rw[ae];exact qc _ _ ac.symm
 have ar:Below U w wA:=by rw[ae,←ac];exact Br.alloc Nl _
 have aE:U<wA.heap.size:=(Ai ah).1;clear ae;refine qA (n:=15) (w0:=wA) (B:=wA.heap.size) [.v 7 (.agg #[.int .i64 t.k,.int .i64 t.d,.int .i64 t.f,.int .i64 t.p,.int .u32 t.l,.int .i64 t.i,.slice t.ka t.kl t.kc,.slice t.sa t.sl t.sc,.slice t.pa t.pl t.pc]),.v 8 (.int .u64 (total:Nat)),.v 9 (.slice Y G Z),.p 10 (MapV U),.v 11 (.slice Y G Z),.v 12 (.int .i64 (G:Nat)),.v 13 (.int .i64 ((G:Int)+1)),.p 14 (OpnV U (G+1)),.v 15 (.slice Y G Z),.v 16 (.int .i64 (G:Nat)),.v 17 (.int .i64 ((G:Int)+1)),.p 18 (MadV U (G+1)),.p 19 (StrV t total U (G+1) (.slice Y G Z)),.p 20 (PtrV t total U (G+1) (.slice Y G Z)),.p 6 (PtrV t total U (G+1) (.slice Y G Z))] (by exact⟨(fun _ _ _ h X=>MapV.below h X),(fun _ _ _ h X=>OpnV.below h X),(fun _ _ _ h X=>MadV.below h X),(fun _ _ _ h X=>StrV.below h X),(fun _ _ _ h X=>PtrV.below h X),(fun _ _ _ h X=>PtrV.below h X),trivial⟩) Br.drew Nl ?_ ?_
 ·repeat' (with_reducible first|exact qx|refine qt ?_ ?_)
  ·intro AA x W I V S q D K J;have a4:=I.2 3 (by decide);conv at a4=>rhs;whnf
   clear q I;exact wp_load_row 26 _ rfl U a4 _ _ _ _ (qe ah V) Tryz.underlying26 rfl (by kernel_rfl) (J _ _ Br rfl)
  all_goals try
   intro AA x W I V S q D K J;have a1:=I.2 1 (by decide);conv at a1=>rhs;whnf
   have a2:=I.2 2 (by decide);conv at a2=>rhs;whnf
   simp only[QJ,QS]at D;clear q I;go_simp
   exact J _ _ BR rfl
  ·intro AA x W I V S q D K J;clear q I D;go_simp
   exact J _ _ (Br.alloc Nl _) ⟨_,rfl,by omega,by exact(Array.getElem?_push_size ..)⟩
  ·intro AA x W I V S q D K J;have g1:=gv I q 6 13;clear q I D;go_simp
   exact J _ _ (Br.alloc Nl _) ⟨_,rfl,by omega,Wn W _⟩
  ·intro AA x W I V S q D K J;have g1:=gv I q 10 17;clear q I D;go_simp
   exact J _ _ (Br.alloc Nl _) ⟨_,rfl,by omega,Wn W _⟩
  ·intro AA x W I V S q D K J;have g7:=gv I q 0 7;have g8:=gv I q 1 8;have g9:=gv I q 2 9;obtain⟨bw,aA,k1,k2⟩:=gp I q 3 10;obtain⟨bo,aw,k3,k4⟩:=gp I q 7 14;obtain⟨bm,au,k5,k6⟩:=gp I q 11 18;have q7:=g7;have q8:=g8;have q9:=g9;have az:=aA;have av:=aw;have aB:=au;rw[Lh]at q7 q8 q9 az av aB;clear q I D;go_simp
   exact J _ _ BR ⟨bo,bm,bw,rfl,⟨bw,rfl,k1,k2⟩,⟨bo,rfl,k3,k4⟩,⟨bm,rfl,k5,k6⟩⟩
  ·intro AA x W I V S q D K J;obtain⟨bo,bm,bw,ay,k1,k2,k3⟩:=gp I q 12 19;have ad: ∀o,Below W.heap.size W (W.alloc o):=fun o=>Br.alloc Nl _
   clear q I D;unfold Jl at ay;go_simp
   exact J _ _ (ad _) ⟨W.heap.size,bo,bm,bw,rfl,by omega,Wn W _,k1.below (ad _),k2.below (ad _),k3.below (ad _)⟩
  ·intro AA x W I V S q D K J;obtain⟨bc,bo,bm,bw,aC,k0,k4,k1,k2,k3⟩:=gp I q 13 20;clear q I D;go_simp
   exact J _ _ BR ⟨bc,bo,bm,bw,rfl,k0,k4,k1,k2,k3⟩
 intro x W V S aq;obtain⟨-, -, -, -, -,e6, -⟩:=aq;change PtrV t total U (G+1) (.slice Y G Z) (x 6) W at e6
 obtain⟨bc,bo,bm,bw,e6,k0,k4,k1,k2,k3⟩:=e6;refine qs ?_;simp only[Qx,Act.put,Ls,e6];generalize x 10=aL;generalize x 14=aJ;generalize x 18=aK;generalize x 19=aG;generalize x 20=aH;have HF:=hid (show PtrV t total U (G+1) (.slice Y G Z) (.pointer (some ⟨bc,0,none⟩)) W from⟨bc,bo,bm,bw,rfl,k0,k4,k1,k2,k3⟩);have HB:=hid (ar.trans (V.mono (by omega)));clear e6 k0 k4 k1 k2 k3 V aa ab ax;go_wp2_with fail
 go_ret
 exact⟨⟨_,rfl,by rw[ac];exact HF.out⟩,by rw[ac];exact HB.out⟩
end Go.Proofs.YthjoojnlnlmljaaGreat
