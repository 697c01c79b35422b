/- Whether a path fits a tree, by the program. No condition. -/
import Derived.Test.YthjoojnlnlmljaaGreatP34
import Derived.Test.YthjoojnlnlmljaaGreatP35
import Derived.Deep.AppendLies
import Derived.Deep.RegionHeld3
import Derived.Laws.AppendOwnNone
import Derived.BigQuiet
import Derived.Deep.QuietTactic
import Derived.Test.YthjoojnlnlmljaaGreatP05
import Derived.Maps.AppendAt
set_option linter.all false
set_option maxRecDepth 100000
set_option maxHeartbeats 8000000
namespace Go.Proofs.YthjoojnlnlmljaaGreat
open Go.ChangeShapes Go.WideShapes Go.ChangeAt Go.RowKit Go.Joins Go.Shelf Go.Maps
open Go.Lib (hid)
attribute [local go_sem] Oper.semAt_some
theorem qhu {ds:List (List Int)}{k:Nat}(h:k<ds.length):qbz ds k∈ds:=by
  unfold qbz;rw[Lg,List.getElem?_eq_getElem h];exact List.getElem_mem h
def qey (inner:Int)(ch af:Nat→Int)(ss:List Yj)(j:Nat):Prop:=((Yf ss j).1.length:Int)=ch j∧((Yf ss j).2.length:Int)=af j∧ ∀d∈(Yf ss j).1++(Yf ss j).2,(d.length:Int)=inner
def FitsP (inner:Int)(m:Nat)(ch af:Nat→Int)(ss:List Yj):Prop:=ss.length=m∧ ∀j,j<m→qey inner ch af ss j
def StageAt (w:World)(g:Nat)(R A F T ch:Nat→Int)(la ro:Nat→Bool)(j:Nat):Prop:=
  w.cell? ⟨g,j*7,none⟩=some (.int .i64 (R j))∧w.cell? ⟨g,j*7+1,none⟩=some (.int .u64 (A j))∧w.cell? ⟨g,j*7+2,none⟩=some (.int .u64 (F j))∧w.cell? ⟨g,j*7+3,none⟩=some (.int .u64 (T j))∧
    w.cell? ⟨g,j*7+4,none⟩=some (.bool (la j))∧w.cell? ⟨g,j*7+5,none⟩=some (.bool (ro j))∧w.cell? ⟨g,j*7+6,none⟩=some (.int .u64 (ch j))
theorem StageAt.below {w w':World}{g:Nat}{R A F T D:Nat→Int}{la r:Nat→Bool}{j:Nat}(h:StageAt w g R A F T D la r j)(q:g<w.heap.size)(o:Below w.heap.size w w'):StageAt w' g R A F T D la r j:=by
  obtain⟨G,V,J,U,O,X,I⟩:=h;exact⟨(o.cell (p:=⟨g,_,none⟩) q).trans G,(o.cell (p:=⟨g,_,none⟩) q).trans V,(o.cell (p:=⟨g,_,none⟩) q).trans J,(o.cell (p:=⟨g,_,none⟩) q).trans U,(o.cell (p:=⟨g,_,none⟩) q).trans O,(o.cell (p:=⟨g,_,none⟩) q).trans X,(o.cell (p:=⟨g,_,none⟩) q).trans I⟩
theorem qdj {P:Program}{c:Code}{Q:Exit→Act→World→Prop}{a:Act}{w:World}(h: ∀W,W=w→Code.wp P c Q a W):Code.wp P c Q a w:=h w rfl
theorem pRowsAt.elem {w:World}{a:Option Addr}{n D:Nat}{ds:List (List Int)}(h:pRowsAt w (.slice a n D) ds){k:Nat}(o:k<n):
    n=ds.length∧ ∃b off x c,a=some ⟨b,off,none⟩∧b<w.heap.size∧w.cell? ⟨b,off+k,none⟩=some (.slice x (qbz ds k).length c)∧Holds8 w (.slice x (qbz ds k).length c) (qbz ds k):=by
  obtain⟨I,J,U,e, -,h⟩:=h;simp only[Value.slice.injEq]at e;obtain⟨rfl,rfl,rfl⟩:=e;obtain⟨b,off,rfl,G,h⟩:=h.resolve_left (fun e=>by rw[e]at o;simp at o);obtain⟨r,q⟩:=h k o;obtain⟨x,c,e,O⟩:=id q;rw[e]at r q;exact⟨rfl,b,off,x,c,rfl,G,r,q⟩
theorem qby {ss:List Yj}{k:Nat}(h:k<ss.length):Yf ss k∈ss:=by
  unfold Yf;rw[Lg,List.getElem?_eq_getElem h];exact List.getElem_mem h
def StagesIs (w:World)(g m:Nat)(R A F T ch:Nat→Int)(la ro:Nat→Bool):Prop:=g<w.heap.size∧ ∀j,j<m→StageAt w g R A F T ch la ro j
theorem StagesIs.below {w w':World}{g m:Nat}{R A F T o:Nat→Int}{la q:Nat→Bool}(h:StagesIs w g m R A F T o la q)(r:Below w.heap.size w w'):StagesIs w' g m R A F T o la q:=
  ⟨Nat.lt_of_lt_of_le h.1 r.size,fun j D=>(h.2 j D).below h.1 r⟩
end Go.Proofs.YthjoojnlnlmljaaGreat
namespace Go.Proofs.YthjoojnlnlmljaaGreat
open Go.ChangeShapes Go.WideShapes Go.ChangeAt Go.RowKit Go.Joins Go.Shelf Go.Maps
open Go.Lib (hid)
theorem qiz {f p total l:Nat}{L:List Nat}(h:RowsIs f p (lvs total l) L){k A:Nat}(J:k+1<L.length)(V:A<nth L (k+1)):
    (QT f l total L (k+1) A).to_+nth L (k+1)≤nth L k+(QT f l total L (k+1) A).frm+1:=by
  by_cases q:nth L (k+1)=1
  · rw[Zs ⟨by omega,q⟩]
    show nth L (k+1 - 1)+nth L (k+1)≤nth L k+0+1
    rw[Nat.add_sub_cancel,q];omega
  · have G: ¬(1≤k+1∧nth L (k+1)=1):=fun h=>q h.2
    obtain⟨e,U⟩:=h.next_or J q;have o:1≤f:=by omega
    by_cases D:A=nth L (k+1) - 1
    · rw[zk G D]
      simp only[Nat.succ_ne_zero,if_false,Nat.add_sub_cancel];have:A≤A*f:=Nat.le_mul_of_pos_right A o
      omega
    · rw[zK G D]
      simp only[Nat.succ_ne_zero,if_false];have r:=JR (m:=nth L k) (d:=f) (k:=nth L (k+1) - 1) o (by rw[←e];omega);obtain⟨c,I⟩: ∃c,nth L (k+1)=c+2:=⟨nth L (k+1) - 2,by omega⟩;rw[I]at r⊢;have O:(c+2 - 1)*f=c*f+f:=by rw[show c+2 - 1=c+1 by omega,Nat.add_mul,Nat.one_mul]
      rw[O]at r;have:c≤c*f:=Nat.le_mul_of_pos_right c o
      rw[Nat.add_mul,Nat.one_mul];omega
structure KidFacts (t:TreeV)(total leaf k:Nat):Prop where
  le:(qB t total leaf (k+1)).frm≤Qp t.fn (t.rowsOf total) leaf k
  lt:Qp t.fn (t.rowsOf total) leaf k<(qB t total leaf (k+1)).to_
  to:((qB t total leaf (k+1)).to_:Int)≤18446744073709551615
  few:(qB t total leaf (k+1)).to_+nth (t.rowsOf total) (k+1)≤nth (t.rowsOf total) k+(qB t total leaf (k+1)).frm+1
theorem qa7 {t:TreeV}(Z:0≤t.l∧t.l≤4294967295){total:Nat}(Y:(total:Int)≤18446744073709551615){o:Nat}(h:t.spotE total 0 o=0):
    (∀k,k+1<(t.rowsOf total).length→KidFacts t total o k)∧(nth (t.rowsOf total) 0:Int)≤18446744073709551615∧1≤t.i∧t.i≤64∧t.validE=0:=by
  have I:t.err total=0:=by
    by_cases V:t.err total=0
    · exact V
    · unfold TreeV.spotE at h;rw[if_pos V]at h;exact absurd h V
  have r:o<nth (t.rowsOf total) 0:=by
    unfold TreeV.spotE at h;rw[if_neg (by simp[I])]at h;by_cases U:t.there total 0 o
    · exact U.2.2
    · rw[if_neg U]at h;omega
  obtain⟨G,ab,aa,X⟩:=Qx Z I;have J:=qo X;have q:=qM I;refine⟨fun k D=>?_,zl G Y q 0 (by have:=q.len;omega),by omega,?_,X⟩
  · have O:=(qcI (l:=t.ln) q D (Yv q r k (by omega))).2
    have h2:(qB t total o (k+1)).to_≤nth (t.rowsOf total) k:=Yy G q D (by omega) (Yv q r _ D);have h3:=zl G Y q k (by omega);exact⟨O.1,O.2,by omega,qiz q D (Yv q r _ D)⟩
  · rcases J.1 with e|e<;>rw[e]at J<;>simp[zw]at J<;>omega
def chN (t:TreeV)(total leaf k:Nat):Nat:=Qp t.fn (t.rowsOf total) leaf k - (qB t total leaf (k+1)).frm
def afN (t:TreeV)(total leaf k:Nat):Nat:=(qB t total leaf (k+1)).to_ - Qp t.fn (t.rowsOf total) leaf k - 1
def chI (t:TreeV)(total leaf k:Nat):Int:=(Qp t.fn (t.rowsOf total) leaf k:Int) - ((qB t total leaf (k+1)).frm:Int)
def afI (t:TreeV)(total leaf k:Nat):Int:=(afN t total leaf k:Int)
theorem qhR {t:TreeV}{total o k:Nat}(h:KidFacts t total o k):chI t total o k=(chN t total o k:Int):=by
  unfold chI chN;have:=h.le
  omega
theorem qg1 {t:TreeV}{total o:Nat}{w:World}{b g m r:Nat}(h:w.ownsRow b 127 7 (.slice (some ⟨g,0,none⟩) m r) m (yO t total o m)):
    StagesIs w g m (fun j=>((qB t total o (j+1)).row:Int)) (fun j=>((qB t total o (j+1)).at_:Int)) (fun j=>((qB t total o (j+1)).frm:Int)) (fun j=>((qB t total o (j+1)).to_:Int)) (chI t total o) (fun j=>(qB t total o (j+1)).last) (fun j=>(qB t total o (j+1)).root):=by
  refine⟨(h.lt g (by simp[Value.ownBlock])).2,fun j q=>?_⟩;refine⟨?_,?_,?_,?_,?_,?_,?_⟩
  · rw[show j*7=7*j+0 by omega];exact(h.cellAt (7*j+0) (by omega)).trans (QC t total o m j 0 q (by omega))
  · rw[show j*7+1=7*j+1 by omega];exact(h.cellAt (7*j+1) (by omega)).trans (QC t total o m j 1 q (by omega))
  · rw[show j*7+2=7*j+2 by omega];exact(h.cellAt (7*j+2) (by omega)).trans (QC t total o m j 2 q (by omega))
  · rw[show j*7+3=7*j+3 by omega];exact(h.cellAt (7*j+3) (by omega)).trans (QC t total o m j 3 q (by omega))
  · rw[show j*7+4=7*j+4 by omega];exact(h.cellAt (7*j+4) (by omega)).trans (QC t total o m j 4 q (by omega))
  · rw[show j*7+5=7*j+5 by omega];exact(h.cellAt (7*j+5) (by omega)).trans (QC t total o m j 5 q (by omega))
  · rw[show j*7+6=7*j+6 by omega];exact(h.cellAt (7*j+6) (by omega)).trans (Zq t total o m j q)
theorem qeG (t:TreeV)(G:0≤t.l∧t.l≤4294967295)(total:Nat)(I:(total:Int)≤18446744073709551615)(o:Nat)(O:t.spotE total 0 o=0)(w:World):
    Calls Tryz.prog 68 #[t.val,.int .u64 total,.int .u64 o] w fun e w'=> ∃g r,e= .returned (.tuple #[.slice (some ⟨g,0,none⟩) ((t.rowsOf total).length - 1) r,.int .i64 0])∧
      StagesIs w' g ((t.rowsOf total).length - 1) (fun j=>((qB t total o (j+1)).row:Int)) (fun j=>((qB t total o (j+1)).at_:Int)) (fun j=>((qB t total o (j+1)).frm:Int)) (fun j=>((qB t total o (j+1)).to_:Int)) (chI t total o) (fun j=>(qB t total o (j+1)).last) (fun j=>(qB t total o (j+1)).root)∧Below w.heap.size w w':=by
  have F:=YN G I O;refine(qgU t total o F.two F.most (hid fun k q w=>?_) (hid fun k q w=>?_) (hid F.cells) (hid F.child) w).mono ?_
  · have:=Ze t G total I (k:Nat) (Qp t.fn (t.rowsOf total) o k) w
    rw[(F.spot k q).1,(F.spot k q).2]at this;exact this
  · have:=qbu t G total I (k:Nat) (Qp t.fn (t.rowsOf total) o k) (F.at_ k (by omega)) w
    rw[(F.par k q).1,(F.par k q).2]at this;exact this
  · rintro e w' ⟨v,rfl,D,J⟩
    obtain⟨g,r,rfl⟩:=ownsRow_form D (by have:=F.two;omega);exact⟨g,r,rfl,qg1 D,J⟩
theorem qgV (t:TreeV)(r:0≤t.l∧t.l≤4294967295)(total:Nat)(D:(total:Int)≤18446744073709551615)(o:Nat)(G:t.spotE total 0 o≠0)(w:World):
    Calls Tryz.prog 68 #[t.val,.int .u64 total,.int .u64 o] w fun e w'=>e= .returned (.tuple #[.slice none 0 0,.int .i64 (t.spotE total 0 o)])∧Below w.heap.size w w':=by
  have q:=Ze t r total D 0 o;simp only[yt]at q;exact qfJ t total o (hid q) (by rw[bne_iff_ne];exact G) w
theorem qdH (t:TreeV)(r:0≤t.l∧t.l≤4294967295)(total:Nat)(D:(total:Int)≤18446744073709551615)(o:Nat)(G:t.spotE total 0 o≠0)(w:World):
    Calls Tryz.prog 70 #[t.val,.int .u64 total,.int .u64 o] w fun e w'=>e= .returned (.tuple #[.slice none 0 0,.int .i64 (t.spotE total 0 o)])∧Below w.heap.size w w':=by
  have q:=yC t r total D 0 o;simp only[yt]at q;exact qbj t total o (hid q) (by rw[bne_iff_ne];exact G) w
end Go.Proofs.YthjoojnlnlmljaaGreat
