/- The parents of nodes, case by case. No condition. -/
import Derived.Test.YthjoojnlnlmljaaGreatP28
import Derived.Test.YthjoojnlnlmljaaGreatPY8
import Derived.Lib.SmallJoins
import Derived.Maps.AppendAt
import Derived.BigQuiet
import Derived.Deep.QuietTactic
set_option linter.all false
set_option maxRecDepth 100000
set_option maxHeartbeats 8000000
namespace Go.Proofs.YthjoojnlnlmljaaGreat
open Go.ChangeShapes Go.WideShapes Go.ChangeAt Go.RowKit Go.Joins Go.Shelf Go.Maps
open Go.Lib (hid)
attribute [local go_sem] Oper.semAt_some
theorem qfc (t:TreeV)(total:Nat)(row:Int)(at_:Nat){O:Int}{z1 z2 I:Int}{U:Bool}{J:Bool}{e:Int}(G:Hid (∀w,Calls Tryz.prog 105 #[t.val,.int .u64 total,.int .i64 row,.int .u64 at_] w fun r w'=>r= .returned (.tuple #[.agg #[.int .i64 O,.int .u64 z1,.int .u64 z2,.int .u64 I,.bool U,.bool J],.int .i64 e])∧Below w.heap.size w w'))(Y:(e != 0)=true)(w:World):
    Calls Tryz.prog 106 #[t.val,.int .u64 total,.int .i64 row,.int .u64 at_] w fun r w'=>r= .returned (.tuple #[.int .u64 0,.int .i64 e])∧Below w.heap.size w w':=by
  unfold TreeV.val at*;go_enter Tryz.func106,Tryz.ntmps106
  go_wp2_with fail
  refine(G.out _).mono ?_;rintro r w1 ⟨rfl,o⟩;obtain⟨X,V⟩:=Q5 o;have D:=o.size;simp at D
  have Z:w.heap.size<w1.heap.size:=by omega
  have q:Below w.heap.size w w1:=qu _ o;clear o;go_wp2
  refine Bp (results_tmp2 (fn:=Tryz.f106) (t:=8) (u:=9) rfl _ _ _) rfl ⟨rfl,?_⟩;first|exact q|exact q.alloc (by omega) _
theorem qdW (t:TreeV)(total:Nat)(row:Int)(at_:Nat){J:Int}{z1 z2 I:Int}{O:Bool}(G:Hid (∀w,Calls Tryz.prog 105 #[t.val,.int .u64 total,.int .i64 row,.int .u64 at_] w fun r w'=>r= .returned (.tuple #[.agg #[.int .i64 J,.int .u64 z1,.int .u64 z2,.int .u64 I,.bool O,.bool true],.int .i64 0])∧Below w.heap.size w w'))(w:World):
    Calls Tryz.prog 106 #[t.val,.int .u64 total,.int .i64 row,.int .u64 at_] w fun r w'=>r= .returned (.tuple #[.int .u64 0,.int .i64 6])∧Below w.heap.size w w':=by
  unfold TreeV.val at*;go_enter Tryz.func106,Tryz.ntmps106
  go_wp2_with fail
  refine(G.out _).mono ?_;rintro r w1 ⟨rfl,o⟩;obtain⟨V,U⟩:=Q5 o;have D:=o.size;simp at D
  have X:w.heap.size<w1.heap.size:=by omega
  have q:Below w.heap.size w w1:=qu _ o;clear o;go_wp2
  refine Bp (results_tmp2 (fn:=Tryz.f106) (t:=8) (u:=9) rfl _ _ _) rfl ⟨rfl,?_⟩;first|exact q|exact q.alloc (by omega) _
theorem qb3 (t:TreeV)(total:Nat)(row:Int)(at_:Nat){O:Int}{z1 z2 I:Int}{U:Bool}{J:Bool}{e:Int}(G:Hid (∀w,Calls Tryz.prog 52 #[t.val,.int .u64 total,.int .i64 row,.int .u64 at_] w fun r w'=>r= .returned (.tuple #[.agg #[.int .i64 O,.int .u64 z1,.int .u64 z2,.int .u64 I,.bool U,.bool J],.int .i64 e])∧Below w.heap.size w w'))(Y:(e != 0)=true)(w:World):
    Calls Tryz.prog 110 #[t.val,.int .u64 total,.int .i64 row,.int .u64 at_] w fun r w'=>r= .returned (.tuple #[.int .u64 0,.int .i64 e])∧Below w.heap.size w w':=by
  unfold TreeV.val at*;go_enter Tryz.func110,Tryz.ntmps110
  go_wp2_with fail
  refine(G.out _).mono ?_;rintro r w1 ⟨rfl,o⟩;obtain⟨X,V⟩:=Q5 o;have D:=o.size;simp at D
  have Z:w.heap.size<w1.heap.size:=by omega
  have q:Below w.heap.size w w1:=qu _ o;clear o;go_wp2
  refine Bp (results_tmp2 (fn:=Tryz.f110) (t:=8) (u:=9) rfl _ _ _) rfl ⟨rfl,?_⟩;first|exact q|exact q.alloc (by omega) _
theorem qbl (t:TreeV)(total:Nat)(row:Int)(at_:Nat){J:Int}{z1 z2 I:Int}{O:Bool}(G:Hid (∀w,Calls Tryz.prog 52 #[t.val,.int .u64 total,.int .i64 row,.int .u64 at_] w fun r w'=>r= .returned (.tuple #[.agg #[.int .i64 J,.int .u64 z1,.int .u64 z2,.int .u64 I,.bool O,.bool true],.int .i64 0])∧Below w.heap.size w w'))(w:World):
    Calls Tryz.prog 110 #[t.val,.int .u64 total,.int .i64 row,.int .u64 at_] w fun r w'=>r= .returned (.tuple #[.int .u64 0,.int .i64 6])∧Below w.heap.size w w':=by
  unfold TreeV.val at*;go_enter Tryz.func110,Tryz.ntmps110
  go_wp2_with fail
  refine(G.out _).mono ?_;rintro r w1 ⟨rfl,o⟩;obtain⟨V,U⟩:=Q5 o;have D:=o.size;simp at D
  have X:w.heap.size<w1.heap.size:=by omega
  have q:Below w.heap.size w w1:=qu _ o;clear o;go_wp2
  refine Bp (results_tmp2 (fn:=Tryz.f110) (t:=8) (u:=9) rfl _ _ _) rfl ⟨rfl,?_⟩;first|exact q|exact q.alloc (by omega) _
theorem qdX (t:TreeV)(total:Nat)(row:Int)(at_:Nat){z0:Int}{z1 z2 z3:Int}{z4:Bool}{Z:Int}{U Y y3:Int}{V:Bool}{y6:Int}(X:Hid (∀w,Calls Tryz.prog 105 #[t.val,.int .u64 total,.int .i64 row,.int .u64 at_] w fun r w'=>r= .returned (.tuple #[.agg #[.int .i64 z0,.int .u64 z1,.int .u64 z2,.int .u64 z3,.bool z4,.bool false],.int .i64 0])∧Below w.heap.size w w'))(H2:Hid (∀w,Calls Tryz.prog 105 #[t.val,.int .u64 total,.int .i64 (row+1),.int .u64 0] w fun r w'=>r= .returned (.tuple #[.agg #[.int .i64 Z,.int .u64 U,.int .u64 Y,.int .u64 y3,.bool V,.bool true],.int .i64 y6])∧Below w.heap.size w w'))(hr:0≤row∧row≤254)(w:World):
    Calls Tryz.prog 106 #[t.val,.int .u64 total,.int .i64 row,.int .u64 at_] w fun r w'=>r= .returned (.tuple #[.int .u64 0,.int .i64 0])∧Below w.heap.size w w':=by
  unfold TreeV.val at*;go_enter Tryz.func106,Tryz.ntmps106
  go_wp2_with fail
  refine(X.out _).mono ?_;rintro r w1 ⟨rfl,q⟩;obtain⟨hc,aa⟩:=Q5 q;have G:=q.size;simp at G
  have k0:w.heap.size<w1.heap.size:=by omega
  have J:Below w.heap.size w w1:=qu _ q;clear q;go_wp2_with fail
  refine(H2.out _).mono ?_;rintro r O ⟨rfl,o⟩;have I:=o.size;simp at I
  have k2:w.heap.size<O.heap.size:=by omega
  obtain⟨ac,ab⟩:=Q5 o;have D:Below w.heap.size w O:=(J.alloc (by omega) _).trans (o.mono (by simp;omega));clear o;go_wp2
  refine Bp (results_tmp2 (fn:=Tryz.f106) (t:=8) (u:=9) rfl _ _ _) rfl ⟨rfl,?_⟩;first|exact D|exact D.alloc (by omega) _
theorem qgm (t:TreeV)(total:Nat)(row:Int)(at_:Nat){z0:Int}{z1 z2 z3:Int}{z4:Bool}{y0:Int}{Y y2 y3:Int}{y4:Bool}{y6:Int}(H1:Hid (∀w,Calls Tryz.prog 105 #[t.val,.int .u64 total,.int .i64 row,.int .u64 at_] w fun r w'=>r= .returned (.tuple #[.agg #[.int .i64 z0,.int .u64 z1,.int .u64 z2,.int .u64 z3,.bool z4,.bool false],.int .i64 0])∧Below w.heap.size w w'))(H2:Hid (∀w,Calls Tryz.prog 105 #[t.val,.int .u64 total,.int .i64 (row+1),.int .u64 0] w fun r w'=>r= .returned (.tuple #[.agg #[.int .i64 y0,.int .u64 Y,.int .u64 y2,.int .u64 y3,.bool y4,.bool false],.int .i64 y6])∧Below w.heap.size w w'))(hr:0≤row∧row≤254)(hf:2≤t.f∧t.f≤255)(ha:(at_:Int)≤18446744073709551615)(w:World):
    Calls Tryz.prog 106 #[t.val,.int .u64 total,.int .i64 row,.int .u64 at_] w fun r w'=>r= .returned (.tuple #[.int .u64 (at_/t.fn:Nat),.int .i64 0])∧Below w.heap.size w w':=by
  have ac:(t.f==0)=false:=by rw[beq_eq_false_iff_ne];omega
  have I:t.f=(t.fn:Int):=by unfold TreeV.fn;omega
  have G:((at_/t.fn:Nat):Int)=(at_:Int)/t.f:=by rw[I];exact Int.natCast_ediv at_ t.fn
  have V:=Nat.div_le_self at_ t.fn;have e3:(at_:Int)/t.f≤18446744073709551615:=by rw[←G];omega
  have e4:0≤(at_:Int)/t.f:=by rw[←G];exact Int.natCast_nonneg _
  have Z:=hid G;clear G I V;unfold TreeV.val at*;go_enter Tryz.func106,Tryz.ntmps106
  go_wp2_with fail
  refine(H1.out _).mono ?_;rintro r w1 ⟨rfl,q⟩;obtain⟨hc,aa⟩:=Q5 q;have J:=q.size;simp at J
  have k0:w.heap.size<w1.heap.size:=by omega
  have U:Below w.heap.size w w1:=qu _ q;clear q;go_wp2_with fail
  refine(H2.out _).mono ?_;rintro r X ⟨rfl,o⟩;have O:=o.size;simp at O
  have k2:w.heap.size<X.heap.size:=by omega
  obtain⟨ad,ab⟩:=Q5 o;have D:Below w.heap.size w X:=(U.alloc (by omega) _).trans (o.mono (by simp;omega));clear o;go_wp2
  refine Bp (results_tmp2 (fn:=Tryz.f106) (t:=8) (u:=9) rfl _ _ _) rfl ⟨by rw[Z.out];rfl,?_⟩;first|exact D|exact D.alloc (by omega) _
theorem qbm {L:List Nat}(t:TreeV)(total:Nat)(k:Nat)(at_:Nat){z0:Int}{z1 z2 Y:Int}{z4:Bool}(X:Hid (∀w,Calls Tryz.prog 52 #[t.val,.int .u64 total,.int .i64 k,.int .u64 at_] w fun r w'=>r= .returned (.tuple #[.agg #[.int .i64 z0,.int .u64 z1,.int .u64 z2,.int .u64 Y,.bool z4,.bool false],.int .i64 0])∧Below w.heap.size w w'))(Z:Hid (∀w,Calls Tryz.prog 87 #[t.val,.int .u64 total] w fun e w'=> ∃v,e= .returned (.tuple #[v,.int .i64 0])∧w'.ownsRow w.heap.size 44 1 v L.length (L.map qaR)∧Below w.heap.size w w'))(hk:k+1<L.length)(ab:L.length≤255)(h1:((nth L (k+1):Int)==1)=true)(w:World):
    Calls Tryz.prog 110 #[t.val,.int .u64 total,.int .i64 k,.int .u64 at_] w fun r w'=>r= .returned (.tuple #[.int .u64 0,.int .i64 0])∧Below w.heap.size w w':=by
  unfold TreeV.val at*;go_enter Tryz.func110,Tryz.ntmps110
  go_wp2_with fail
  refine(X.out _).mono ?_;rintro r w1 ⟨rfl,D⟩;obtain⟨hc,aa⟩:=Q5 D;have J:=D.size;simp at J
  have k0:w.heap.size<w1.heap.size:=by omega
  have U:Below w.heap.size w w1:=qu _ D;clear D;go_wp2_with fail
  refine(Z.out _).mono ?_;rintro r V ⟨v,rfl,I,q⟩;obtain⟨g,ad,rfl, -,ag,ae,o⟩:=Ye I (by omega);clear I;have hx:=o (k+1) (by omega);clear o;have O:=q.size;simp at O
  have k2:w.heap.size<V.heap.size:=by omega
  obtain⟨af,ac⟩:=Q5 q;have G:Below w.heap.size w V:=(U.alloc (by omega) _).trans (q.mono (by simp;omega));clear q;go_wp2
  refine Bp (results_tmp2 (fn:=Tryz.f110) (t:=8) (u:=9) rfl _ _ _) rfl ⟨rfl,?_⟩;first|exact G|exact G.alloc (by omega) _
theorem qc2 {L:List Nat}(t:TreeV)(total:Nat)(k:Nat)(at_:Nat){z0:Int}{z1 z2 z3:Int}{z4:Bool}(H1:Hid (∀w,Calls Tryz.prog 52 #[t.val,.int .u64 total,.int .i64 k,.int .u64 at_] w fun r w'=>r= .returned (.tuple #[.agg #[.int .i64 z0,.int .u64 z1,.int .u64 z2,.int .u64 z3,.bool z4,.bool false],.int .i64 0])∧Below w.heap.size w w'))(HR:Hid (∀w,Calls Tryz.prog 87 #[t.val,.int .u64 total] w fun e w'=> ∃v,e= .returned (.tuple #[v,.int .i64 0])∧w'.ownsRow w.heap.size 44 1 v L.length (L.map qaR)∧Below w.heap.size w w'))(hk:k+1<L.length)(ab:L.length≤255)(h1:((nth L (k+1):Int)==1)=false)(hf:2≤t.f∧t.f≤255)(ha:(at_:Int)≤18446744073709551615)(w:World):
    Calls Tryz.prog 110 #[t.val,.int .u64 total,.int .i64 k,.int .u64 at_] w fun r w'=>r= .returned (.tuple #[.int .u64 (at_/t.fn:Nat),.int .i64 0])∧Below w.heap.size w w':=by
  have af:(t.f==0)=false:=by rw[beq_eq_false_iff_ne];omega
  have O:t.f=(t.fn:Int):=by unfold TreeV.fn;omega
  have J:((at_/t.fn:Nat):Int)=(at_:Int)/t.f:=by rw[O];exact Int.natCast_ediv at_ t.fn
  have Y:=Nat.div_le_self at_ t.fn;have e3:(at_:Int)/t.f≤18446744073709551615:=by rw[←J];omega
  have e4:0≤(at_:Int)/t.f:=by rw[←J];exact Int.natCast_nonneg _
  have HQ:=hid J;clear J O Y;unfold TreeV.val at*;go_enter Tryz.func110,Tryz.ntmps110
  go_wp2_with fail
  refine(H1.out _).mono ?_;rintro r w1 ⟨rfl,D⟩;obtain⟨hc,aa⟩:=Q5 D;have U:=D.size;simp at U
  have k0:w.heap.size<w1.heap.size:=by omega
  have X:Below w.heap.size w w1:=qu _ D;clear D;go_wp2_with fail
  refine(HR.out _).mono ?_;rintro r Z ⟨v,rfl,I,q⟩;obtain⟨g,ad,rfl, -,ah,ae,o⟩:=Ye I (by omega);clear I;have hx:=o (k+1) (by omega);clear o;have V:=q.size;simp at V
  have k2:w.heap.size<Z.heap.size:=by omega
  obtain⟨ag,ac⟩:=Q5 q;have G:Below w.heap.size w Z:=(X.alloc (by omega) _).trans (q.mono (by simp;omega));clear q;go_wp2
  refine Bp (results_tmp2 (fn:=Tryz.f110) (t:=8) (u:=9) rfl _ _ _) rfl ⟨by rw[HQ.out];rfl,?_⟩;first|exact G|exact G.alloc (by omega) _
theorem qdE {f p total l:Nat}{L:List Nat}(h:RowsIs f p (lvs total l) L): ∀k,k<L.length→1≤nth L k
  | 0,_=>by rw[h.first];unfold lvs;omega
  | k+1,hk=>by
    have o:=qdE h k (by omega);rw[h.next k hk];unfold yj;split
    · omega
    · exact jm o
def TreeV.parV (t:TreeV)(total:Nat)(row:Int)(at_:Nat):Nat:=if t.spotE total row at_≠0∨(t.spotR total row at_).root=true∨nth (t.rowsOf total) (row.toNat+1)=1 then 0 else at_/t.fn
def TreeV.parE (t:TreeV)(total:Nat)(row:Int)(at_:Nat):Int:=if t.spotE total row at_≠0 then t.spotE total row at_ else if(t.spotR total row at_).root=true then 6 else 0
theorem yt (s:SpotV):s.val= .agg #[.int .i64 s.row,.int .u64 s.at_,.int .u64 s.frm,.int .u64 s.to_,.bool s.last,.bool s.root]:=rfl
theorem qbd {t:TreeV}(X:0≤t.l∧t.l≤4294967295){total:Nat}{row:Int}{at_:Nat}(h:t.spotE total row at_=0)(r:(t.spotR total row at_).root=false):
    t.err total=0∧ ∃k:Nat,row=k∧k+1<(t.rowsOf total).length∧(t.rowsOf total).length≤255∧(nth (t.rowsOf total) (k+1)≠1→2≤t.f∧t.f≤255)∧
      t.spotE total ((k:Int)+1) 0=0∧(t.spotR total ((k:Int)+1) 0).root=decide (nth (t.rowsOf total) (k+1)=1):=by
  by_cases o:t.err total=0
  · refine⟨o,?_⟩
    obtain⟨Z,ab,Y,V⟩:=Qx X o;have ac:=qo V;have I:=qM o;have hm:=I.most;have aa:t.f=(t.fn:Int):=by unfold TreeV.fn;omega
    have ad:(t.pn:Int)≤255:=by unfold TreeV.pn;omega
    unfold TreeV.spotE at h;rw[if_neg (by simp[o])]at h;by_cases G:t.there total row at_
    · unfold TreeV.spotR at r
      rw[if_pos ⟨o,G⟩]at r;obtain⟨z0,z1,z2⟩:=G;obtain⟨k,rfl⟩: ∃k:Nat,row=k:=⟨row.toNat,by omega⟩;rw[Int.toNat_natCast]at r z1 z2;have O: ¬(1≤k∧nth (t.rowsOf total) k=1):=by
        intro U;unfold TreeV.spot QT at r;rw[if_pos U]at r;simp at r
      have J:k+1<(t.rowsOf total).length:=by
        have: ¬k=(t.rowsOf total).length - 1:=fun e=>O ((I.root_iff z1).2 e)
        omega
      have D:t.there total ((k:Int)+1) 0:=by
        have e:((k:Int)+1).toNat=k+1:=by omega
        refine⟨by omega,by rw[e];exact J,by rw[e];exact qdE I _ J⟩
      refine⟨k,rfl,J,by omega,?_,?_,?_⟩
      · intro q
        have:=(I.next_or J q).2
        omega
      · unfold TreeV.spotE
        rw[if_neg (by simp[o]),if_pos D]
      · unfold TreeV.spotR
        rw[if_pos ⟨o,D⟩,show((k:Int)+1).toNat=k+1 by omega];unfold TreeV.spot QT;by_cases q:nth (t.rowsOf total) (k+1)=1
        · rw[if_pos ⟨by omega,q⟩];simp[q]
        · rw[if_neg (fun h=>q h.2)];split<;>simp[q]
    · rw[if_neg G]at h;omega
  · unfold TreeV.spotE at h
    rw[if_pos o]at h;exact absurd h o
theorem qbu (t:TreeV)(I:0≤t.l∧t.l≤4294967295)(total:Nat)(J:(total:Int)≤18446744073709551615)(row:Int)(at_:Nat)(V:(at_:Int)≤18446744073709551615)(w:World):
    Calls Tryz.prog 106 #[t.val,.int .u64 total,.int .i64 row,.int .u64 at_] w fun r w'=>r= .returned (.tuple #[.int .u64 (t.parV total row at_),.int .i64 (t.parE total row at_)])∧Below w.heap.size w w':=by
  have q:=hid (fun w=>Ze t I total J row at_ w);simp only[yt]at q;unfold TreeV.parV TreeV.parE;by_cases o:t.spotE total row at_=0
  · rw[o]at q
    cases hr:(t.spotR total row at_).root with
    | true=>
      rw[hr]at q;rw[if_pos (.inr (.inl rfl)),if_neg (by simp[o]),if_pos rfl];exact qdW t total row at_ q w
    | false=>
      rw[hr]at q;obtain⟨X,k,rfl,hk,Y,U,Z,O⟩:=qbd I o hr;have D:=hid (fun w=>Ze t I total J ((k:Int)+1) 0 w);simp only[yt]at D;rw[O]at D;rw[Int.toNat_natCast];by_cases G:nth (t.rowsOf total) (k+1)=1
      · rw[decide_eq_true G]at D
        rw[if_pos (.inr (.inr G)),if_neg (by simp[o]),if_neg (by simp)];exact qdX t total k at_ q D (by omega) w
      · rw[decide_eq_false G]at D
        rw[if_neg (by simp[o,G]),if_neg (by simp[o]),if_neg (by simp)];exact qgm t total k at_ q D (by omega) (U G) V w
  · rw[if_pos (.inl o),if_pos o]
    exact qfc t total row at_ q (by rw[bne_iff_ne];exact o) w
theorem j8 (t:TreeV)(I:0≤t.l∧t.l≤4294967295)(total:Nat)(V:(total:Int)≤18446744073709551615)(row:Int)(at_:Nat)(Y:(at_:Int)≤18446744073709551615)(w:World):
    Calls Tryz.prog 110 #[t.val,.int .u64 total,.int .i64 row,.int .u64 at_] w fun r w'=>r= .returned (.tuple #[.int .u64 (t.parV total row at_),.int .i64 (t.parE total row at_)])∧Below w.heap.size w w':=by
  have q:=hid (fun w=>yC t I total V row at_ w);simp only[yt]at q;unfold TreeV.parV TreeV.parE;by_cases o:t.spotE total row at_=0
  · rw[o]at q
    cases hr:(t.spotR total row at_).root with
    | true=>
      rw[hr]at q;rw[if_pos (.inr (.inl rfl)),if_neg (by simp[o]),if_pos rfl];exact qbl t total row at_ q w
    | false=>
      rw[hr]at q;obtain⟨J,k,rfl,O,G,X, -, -⟩:=qbd I o hr;have U:=hid (fun w=>Jl t I total V J w);rw[Int.toNat_natCast];by_cases D:nth (t.rowsOf total) (k+1)=1
      · rw[if_pos (.inr (.inr D)),if_neg (by simp[o]),if_neg (by simp)]
        exact qbm (L:=t.rowsOf total) t total k at_ q U O G (by rw[D];rfl) w
      · rw[if_neg (by simp[o,D]),if_neg (by simp[o]),if_neg (by simp)]
        exact qc2 (L:=t.rowsOf total) t total k at_ q U O G (by rw[beq_eq_false_iff_ne];omega) (X D) Y w
  · rw[if_pos (.inl o),if_pos o]
    exact qb3 t total row at_ q (by rw[bne_iff_ne];exact o) w
end Go.Proofs.YthjoojnlnlmljaaGreat
namespace Go.Proofs.YthjoojnlnlmljaaGreat
open Go.ChangeShapes Go.WideShapes Go.ChangeAt Go.RowKit Go.Joins Go.Shelf Go.Maps
open Go.Lib (hid)
theorem qdC {t:TreeV}{total k at_:Nat}(q:t.err total=0)(D:k<(t.rowsOf total).length)(r:at_<nth (t.rowsOf total) k):
    t.spotE total k at_=0∧t.spotR total k at_=QT t.fn t.ln total (t.rowsOf total) k at_:=by
  have o:t.there total k at_:=⟨by omega,by rw[Int.toNat_natCast];exact D,by rw[Int.toNat_natCast];exact r⟩;unfold TreeV.spotE TreeV.spotR;rw[if_neg (by simp[q]),if_pos o,if_pos ⟨q,o⟩,Int.toNat_natCast];exact⟨rfl,rfl⟩
def Qp (f:Nat)(L:List Nat)(leaf:Nat):Nat→Nat
  | 0=>leaf
  | k+1=>if nth L (k+1)=1 then 0 else Qp f L leaf k/f
theorem qgn {f p total l:Nat}{L:List Nat}(h:RowsIs f p (lvs total l) L){k at_:Nat}(r:k+1<L.length)(G:at_<nth L k):(if nth L (k+1)=1 then 0 else at_/f)<nth L (k+1):=by
  by_cases q:nth L (k+1)=1
  · rw[if_pos q];omega
  · rw[if_neg q]
    obtain⟨e,D⟩:=h.next_or r q;rw[e];rcases Nat.lt_or_ge (at_/f) (qR (nth L k) f)with o|o
    · exact o
    · have:=JS (by omega) o
      have d1:=Nat.div_add_mod at_ f;rw[Nat.mul_comm]at this;omega
theorem Yv {f p total l:Nat}{L:List Nat}(h:RowsIs f p (lvs total l) L){o:Nat}(q:o<nth L 0): ∀k,k<L.length→Qp f L o k<nth L k
  | 0,_=>q
  | k+1,hk=>qgn h hk (Yv h q k (by omega))
def qB (t:TreeV)(total leaf k:Nat):SpotV:=QT t.fn t.ln total (t.rowsOf total) k (Qp t.fn (t.rowsOf total) leaf k)
theorem Zr (f l total:Nat)(L:List Nat)(row at_:Nat):(QT f l total L row at_).row=row∧(QT f l total L row at_).at_=at_∧(QT f l total L row at_).root=decide (1≤row∧nth L row=1):=by
  unfold QT;by_cases o:1≤row∧nth L row=1
  · rw[if_pos o];exact⟨rfl,rfl,(decide_eq_true o).symm⟩
  · rw[if_neg o]
    split<;>exact⟨rfl,rfl,(decide_eq_false o).symm⟩
theorem qa6 {t:TreeV}{total:Nat}{o:Nat}(X:t.err total=0)(Y:o<nth (t.rowsOf total) 0){k:Nat}(D:k<(t.rowsOf total).length):
    t.spotE total k (Qp t.fn (t.rowsOf total) o k)=0∧t.spotR total k (Qp t.fn (t.rowsOf total) o k)=qB t total o k∧(qB t total o k).row=k∧(qB t total o k).at_=Qp t.fn (t.rowsOf total) o k∧
      (qB t total o k).root=decide (k=(t.rowsOf total).length - 1)∧(k≠(t.rowsOf total).length - 1→t.parV total k (Qp t.fn (t.rowsOf total) o k)=Qp t.fn (t.rowsOf total) o (k+1)):=by
  have V:=qM X;have ha:=Yv V Y k D;obtain⟨G,J⟩:=qdC X D ha;obtain⟨Z,r2,I⟩:=Zr t.fn t.ln total (t.rowsOf total) k (Qp t.fn (t.rowsOf total) o k);have q:decide (1≤k∧nth (t.rowsOf total) k=1)=decide (k=(t.rowsOf total).length - 1):=by
    rw[decide_eq_decide];exact V.root_iff D
  refine⟨G,J,Z,r2,I.trans q,fun U=>?_⟩;have O:(t.spotR total k (Qp t.fn (t.rowsOf total) o k)).root=false:=by
    rw[J,I,q,decide_eq_false U]
  unfold TreeV.parV;rw[Int.toNat_natCast];by_cases r:nth (t.rowsOf total) (k+1)=1
  · rw[if_pos (.inr (.inr r))]
    show 0=if nth (t.rowsOf total) (k+1)=1 then 0 else _
    rw[if_pos r]
  · rw[if_neg (by simp[G,O,r])]
    show _=if nth (t.rowsOf total) (k+1)=1 then 0 else _
    rw[if_neg r]
end Go.Proofs.YthjoojnlnlmljaaGreat
namespace Go.Proofs.YthjoojnlnlmljaaGreat
open Go.ChangeShapes Go.WideShapes Go.ChangeAt Go.RowKit Go.Joins Go.Shelf Go.Maps
open Go.Lib (hid)
attribute [local go_sem] Oper.semAt_some
def SpotV.cellsL (s:SpotV):List Value:=[.int .i64 s.row,.int .u64 s.at_,.int .u64 s.frm,.int .u64 s.to_,.bool s.last,.bool s.root]
def zv (t:TreeV)(total leaf:Nat):Nat→List Value
  | 0=>[]
  | k+1=>zv t total leaf k++(qB t total leaf k).cellsL
def Zf:Value→Nat
  | .slice _ n _=>n
  | _=>0
theorem qgA:(Tryz.prog.info? 96).map (fun i=>(i.zero,i.size,i.bytes))=some (some (.agg #[.int .i64 0,.int .u64 0,.int .u64 0,.int .u64 0,.bool false,.bool false]),6,40):=by kernel_rfl
theorem jc {W W':World}{base:Nat}{e:TypeId}{size:Nat}{v:Value}{n:Nat}{xs:List Value}(h:W.ownsRow base e size v n xs)(J: ∀g,base≤g→g<W.heap.size→W'.heap[g]? =W.heap[g]?):W'.ownsRow base e size v n xs:=by
  refine⟨h.1,?_⟩;rcases h.2 with o|⟨g,D,q,I,o,r,G⟩
  · exact .inl o
  · exact .inr ⟨g,D,q,I,o,(J g o (Ai r).1).trans r,G⟩
theorem qbP (W:World)(a0 a1 a2 r o q:Value)(T:TypeId): ∀j u,[a0,a1,a2,r,o,q][j]? =some u→(W.alloc (.cells #[a0,a1,a2,r,o,q] T)).cell? (Addr.add ⟨W.heap.size,0,none⟩ j)=some u:=by
  intro j u D;have h:=qd (Wn W (.cells #[a0,a1,a2,r,o,q] T)) j;rw[show Addr.add ⟨W.heap.size,0,none⟩ j=⟨W.heap.size,j,none⟩ by first|(simp[Addr.add];done)|(simp[Addr.add];omega),h];rw[←Array.getElem?_toList];exact D
theorem qeo (W:World)(a0 a1 a2 r o q:Value)(T:TypeId)(n:Nat)(D:n=W.heap.size): ∀j u,[a0,a1,a2,r,o,q][j]? =some u→(W.alloc (.cells #[a0,a1,a2,r,o,q] T)).cell? (Addr.add ⟨n,0,none⟩ j)=some u:=by
  subst D;exact qbP W a0 a1 a2 r o q T
theorem jl {W:World}{b:Nat}{a0 a1 a2 I q o:Value}{T:TypeId}(h:W.heap[b]? =some (Obj.cells #[a0,a1,a2,I,q,o] T (0,0))):
    W.cell? ⟨b,0,none⟩=some a0∧W.cell? ⟨b,1,none⟩=some a1∧W.cell? ⟨b,2,none⟩=some a2∧W.cell? ⟨b,3,none⟩=some I∧W.cell? ⟨b,4,none⟩=some q∧W.cell? ⟨b,5,none⟩=some o∧ ∀i,W.frozen? ⟨b,i,none⟩=false:=by
  have D:=qd h 0;have c1:=qd h 1;have c2:=qd h 2;have G:=qd h 3;have J:=qd h 4;have r:=qd h 5;simp only[List.getElem?_toArray,List.getElem?_cons_zero,List.getElem?_cons_succ]at D c1 c2 G J r;exact⟨D,c1,c2,G,J,r,fun i=>by simp[World.frozen?,h]⟩
def qi1 (t:TreeV)(total leaf n:Nat)(w1:World)(v:Value)(wr:World):Prop:=
  ∃k,k<n∧Zf v=k+1∧wr.ownsRow (w1.heap.size+1) 96 6 v (k+1) (zv t total leaf (k+1))∧Below w1.heap.size w1 wr∧
    wr.heap[w1.heap.size]? =some (Obj.cells #[.int .i64 (k:Nat),.int .u64 (Qp t.fn (t.rowsOf total) leaf k:Nat),.int .u64 (qB t total leaf k).frm,.int .u64 (qB t total leaf k).to_,.bool (qB t total leaf k).last,.bool (decide (k=n - 1))] 96 (0,0))
theorem qcq (t:TreeV)(total o:Nat){n:Nat}(hn:2≤n)(aA:n≤255)
    (HS:Hid (∀k,k<n→ ∀w,Calls Tryz.prog 52 #[t.val,.int .u64 total,.int .i64 (k:Nat),.int .u64 (Qp t.fn (t.rowsOf total) o k:Nat)] w fun r w'=>r= .returned (.tuple #[.agg #[.int .i64 (k:Nat),.int .u64 (Qp t.fn (t.rowsOf total) o k:Nat),.int .u64 (qB t total o k).frm,.int .u64 (qB t total o k).to_,.bool (qB t total o k).last,.bool (decide (k=n - 1))],.int .i64 0])∧Below w.heap.size w w'))
    (HP:Hid (∀k,k+1<n→ ∀w,Calls Tryz.prog 110 #[t.val,.int .u64 total,.int .i64 (k:Nat),.int .u64 (Qp t.fn (t.rowsOf total) o k:Nat)] w fun r w'=>r= .returned (.tuple #[.int .u64 (Qp t.fn (t.rowsOf total) o (k+1):Nat),.int .i64 0])∧Below w.heap.size w w'))
    (HW:Hid (∀k,k<n→(qB t total o k).cellsL=[.int .i64 (k:Nat),.int .u64 (Qp t.fn (t.rowsOf total) o k:Nat),.int .u64 (qB t total o k).frm,.int .u64 (qB t total o k).to_,.bool (qB t total o k).last,.bool (decide (k=n - 1))])) (w:World):
    Calls Tryz.prog 70 #[t.val,.int .u64 total,.int .u64 o] w fun e w'=> ∃v,e= .returned (.tuple #[v,.int .i64 0])∧w'.ownsRow w.heap.size 96 6 v n (zv t total o n)∧Below w.heap.size w w':=by
  obtain⟨i0,hi,ab,ac,aa⟩:=info_parts qgA;have S0:=hid (HS.out 0 (by omega));have W0:=hid (HW.out 0 (by omega));unfold TreeV.val at*;have q0:decide (0=n - 1)=false:=decide_eq_false (by omega);rw[q0]at S0 W0;simp only[Qp,Int.natCast_zero]at S0 W0;go_enter Tryz.func70,Tryz.ntmps70
  go_wp2_with fail
  refine(S0.out _).mono ?_;rintro r w1 ⟨rfl,V⟩;have aj:=V.size;simp at aj
  have k1:w.heap.size<w1.heap.size:=by omega
  have al:Below w.heap.size w w1:=qu _ V;obtain⟨aw,ay⟩:=Q5 V;clear V;go_wp2_with (at_builtin;refine wpList_append_own _ rfl _ _ 128 rfl (w1.heap.size+1) 96 i0 _ 6 40 Tryz.underlying128 hi ab ac aa rfl (by decide) _ _ _ rfl (Wo _ _ _ _) ⟨w1.heap.size+1,0,none⟩ 1 1 [.int .i64 0,.int .u64 o,.int .u64 (qB t total o 0).frm,.int .u64 (qB t total o 0).to_,.bool (qB t total o 0).last,.bool false] rfl rfl ?_ (by simp[Value.oneCell']) (by unfold maxLen;omega) (by omega) (by simp) ?_;exact(by have h:=qbP (w1.alloc (Obj.cells #[.int .i64 0,.int .u64 o,.int .u64 (qB t total o 0).frm,.int .u64 (qB t total o 0).to_,.bool (qB t total o 0).last,.bool false] 96)) (.int .i64 0) (.int .u64 o) (.int .u64 (qB t total o 0).frm) (.int .u64 (qB t total o 0).to_) (.bool (qB t total o 0).last) (.bool false) 96;simp only[World.size_alloc]at h;exact h);intro v' w2 q I _)
  have af:Below (w1.heap.size+1) (w1.alloc (Obj.cells #[.int .i64 0,.int .u64 o,.int .u64 (qB t total o 0).frm,.int .u64 (qB t total o 0).to_,.bool (qB t total o 0).last,.bool false] 96)) w2:=
    (Br.alloc (by simp) _).grown I (by simp) (fun k e=>by cases e)
  go_loopw [8] (fun v wr=>qi1 t total o n w1 v wr) (fun v _=>n - Zf v)
  case atStart=>
    obtain⟨g,Y,rfl⟩:=ownsRow_form q (by omega);refine⟨0,by omega,rfl,?_,((Below.refl _ w1).alloc Nl _).trans (af.mono (by omega)),?_⟩
    · show w2.ownsRow _ _ 6 _ _ ([]++(qB t total o 0).cellsL)
      rw[W0.out];exact q
    · rw[q0]
      exact(af.block _ (by omega)).trans (Wn _ _)
  case round=>
    obtain⟨k,hk,ap,D,hb,J⟩:=hrel;have av:=hb.size;obtain⟨ar,aq⟩:=Q5 hb;have ax:w1.heap.size<wr.heap.size:=(Ai J).1;have BX:=hid J;obtain⟨c0,c1,c2,c3,c4,c5,cf⟩:=jl J;clear J;by_cases U:k=n - 1
    · have q1:decide (k=n - 1)=true:=decide_eq_true U
      rw[q1]at c5;obtain⟨g,Y,rfl⟩:=ownsRow_form D (by omega);go_wp2
      refine Bp (results_tmp2 (fn:=Tryz.f70) (t:=6) (u:=7) rfl _ _ _) rfl ⟨_,rfl,?_,al.trans (hb.mono (by omega))⟩;rw[show n=k+1 by omega];exact ownsRow_le D (by omega)
    · have q1:decide (k=n - 1)=false:=decide_eq_false U
      rw[q1]at c5;obtain⟨g,Y,rfl⟩:=ownsRow_form D (by omega);go_wp2_with fail
      refine(HP.out k (by omega) _).mono ?_;rintro r w3 ⟨rfl,O⟩;have am:=O.size;obtain⟨d0,d1,d2,d3,d4,d5,df⟩:=jl ((O.block _ (by omega)).trans BX.out);have ae:Below w1.heap.size w1 w3:=hb.trans (O.mono (by omega));obtain⟨az,aB⟩:=Q5 ae;have Z:=HS.out (k+1) (by omega);simp only[Int.natCast_add,Int.natCast_one]at Z;have Z:=hid Z;go_wp2_with fail
      refine(Z.out _).mono ?_;rintro r w4 ⟨rfl,X⟩;have au:=X.size;have E4:=(X.block _ (by omega)).trans ((O.block _ (by omega)).trans BX.out);have an:=hid E4;obtain⟨e0,e1,e2,e3,e4,e5,ef⟩:=jl E4;have ak:Below w1.heap.size w1 w4:=ae.trans (X.mono (by omega));have G:=jc D (fun g _ g2=>(O.trans (X.mono am)).block g g2);have ah:=hid G;have ai:=hid D;clear E4 G D;go_wp2_with (at_builtin;refine wpList_append_own _ rfl _ _ 128 rfl (w1.heap.size+1) 96 i0 _ 6 40 Tryz.underlying128 hi ab ac aa rfl (by decide) (.slice (some ⟨g,0,none⟩) (k+1) Y) (k+1) (zv t total o (k+1)) rfl ?_ ⟨w4.heap.size,0,none⟩ 1 1 [.int .i64 ((k:Int)+1),.int .u64 (Qp t.fn (t.rowsOf total) o (k+1):Nat),.int .u64 (qB t total o (k+1)).frm,.int .u64 (qB t total o (k+1)).to_,.bool (qB t total o (k+1)).last,.bool (decide (k+1=n - 1))] rfl rfl ?_ (by simp[Value.oneCell']) (by unfold maxLen;omega) (by omega) (by simp;omega) ?_;(have G:=ah.out;exact(ownsRow_setCell_below (ownsRow_setCell_below (ownsRow_setCell_below (ownsRow_setCell_below (ownsRow_setCell_below (ownsRow_setCell_below G (a:=⟨w1.heap.size,0,none⟩) (Nat.lt_succ_self _) _) (a:=⟨w1.heap.size,1,none⟩) (Nat.lt_succ_self _) _) (a:=⟨w1.heap.size,2,none⟩) (Nat.lt_succ_self _) _) (a:=⟨w1.heap.size,3,none⟩) (Nat.lt_succ_self _) _) (a:=⟨w1.heap.size,4,none⟩) (Nat.lt_succ_self _) _) (a:=⟨w1.heap.size,5,none⟩) (Nat.lt_succ_self _) _).alloc _);exact qeo _ _ _ _ _ _ _ _ _ (by simp);intro v' w5 q I _)
      obtain⟨g2,ao,rfl⟩:=ownsRow_form q (by omega);have hW:=HW.out (k+1) (by omega);simp only[Int.natCast_add,Int.natCast_one]at hW;have ad:=((Below.refl (w1.heap.size+1) _).alloc (by simp;omega) _).grown I (by simp;omega) (fun k e=>(ai.out.lt k e).1);have ag:=ya an.out (.int .i64 ((k:Int)+1)) (.int .u64 (Qp t.fn (t.rowsOf total) o (k+1):Nat)) (.int .u64 (qB t total o (k+1)).frm) (.int .u64 (qB t total o (k+1)).to_) (.bool (qB t total o (k+1)).last) (.bool (decide (k+1=n - 1)));refine⟨⟨k+1,by omega,rfl,?_,(yb ak Nl (.int .i64 ((k:Int)+1)) (.int .u64 (Qp t.fn (t.rowsOf total) o (k+1):Nat)) (.int .u64 (qB t total o (k+1)).frm) (.int .u64 (qB t total o (k+1)).to_) (.bool (qB t total o (k+1)).last) (.bool (decide (k+1=n - 1)))).trans (ad.mono (by omega)),?_⟩,by simp[Zf];omega⟩
      · show w5.ownsRow _ _ 6 _ _ (zv t total o (k+1)++(qB t total o (k+1)).cellsL)
        rw[hW];exact q
      · simp only[Int.natCast_add,Int.natCast_one]
        exact(ad.block _ (by omega)).trans ag
def yO (t:TreeV)(total leaf:Nat):Nat→List Value
  | 0=>[]
  | k+1=>yO t total leaf k++((qB t total leaf (k+1)).cellsL++[.int .u64 ((Qp t.fn (t.rowsOf total) leaf k:Int) - ((qB t total leaf (k+1)).frm:Int))])
theorem qfn:(Tryz.prog.info? 127).map (fun i=>(i.zero,i.size,i.bytes))=some (some (.agg #[.int .i64 0,.int .u64 0,.int .u64 0,.int .u64 0,.bool false,.bool false,.int .u64 0]),7,48):=by kernel_rfl
theorem qfy (W:World)(a0 a1 a2 D o r q:Value)(T:TypeId)(n:Nat)(G:n=W.heap.size): ∀j u,[a0,a1,a2,D,o,r,q][j]? =some u→(W.alloc (.cells #[a0,a1,a2,D,o,r,q] T)).cell? (Addr.add ⟨n,0,none⟩ j)=some u:=by
  subst G;intro j u I;have h:=qd (Wn W (.cells #[a0,a1,a2,D,o,r,q] T)) j;rw[show Addr.add ⟨W.heap.size,0,none⟩ j=⟨W.heap.size,j,none⟩ by first|(simp[Addr.add];done)|(simp[Addr.add];omega),h];rw[←Array.getElem?_toList];exact I
def qh7 (t:TreeV)(total leaf n:Nat)(w1:World)(v:Value)(wr:World):Prop:=
  ∃k,k<n∧Zf v=k∧wr.ownsRow (w1.heap.size+1) 127 7 v k (yO t total leaf k)∧Below w1.heap.size w1 wr∧
    wr.heap[w1.heap.size]? =some (Obj.cells #[.int .i64 (k:Nat),.int .u64 (Qp t.fn (t.rowsOf total) leaf k:Nat),.int .u64 (qB t total leaf k).frm,.int .u64 (qB t total leaf k).to_,.bool (qB t total leaf k).last,.bool (decide (k=n - 1))] 96 (0,0))
theorem ym {w:World}{base size n:Nat}{e:TypeId}{v:Value}{xs:List Value}(h:w.ownsRow base e size v n xs): ∃a c,v= .slice a n c:=by
  rcases ownsRow_forms h with⟨h,o⟩|⟨g,q,h⟩
  · exact⟨none,0,by rw[h,o]⟩
  · exact⟨_,_,h⟩
theorem qgU (t:TreeV)(total o:Nat){n:Nat}(hn:2≤n)(aC:n≤255)
    (HS:Hid (∀k,k<n→ ∀w,Calls Tryz.prog 105 #[t.val,.int .u64 total,.int .i64 (k:Nat),.int .u64 (Qp t.fn (t.rowsOf total) o k:Nat)] w fun r w'=>r= .returned (.tuple #[.agg #[.int .i64 (k:Nat),.int .u64 (Qp t.fn (t.rowsOf total) o k:Nat),.int .u64 (qB t total o k).frm,.int .u64 (qB t total o k).to_,.bool (qB t total o k).last,.bool (decide (k=n - 1))],.int .i64 0])∧Below w.heap.size w w'))
    (HP:Hid (∀k,k+1<n→ ∀w,Calls Tryz.prog 106 #[t.val,.int .u64 total,.int .i64 (k:Nat),.int .u64 (Qp t.fn (t.rowsOf total) o k:Nat)] w fun r w'=>r= .returned (.tuple #[.int .u64 (Qp t.fn (t.rowsOf total) o (k+1):Nat),.int .i64 0])∧Below w.heap.size w w'))
    (HW:Hid (∀k,k<n→(qB t total o k).cellsL=[.int .i64 (k:Nat),.int .u64 (Qp t.fn (t.rowsOf total) o k:Nat),.int .u64 (qB t total o k).frm,.int .u64 (qB t total o k).to_,.bool (qB t total o k).last,.bool (decide (k=n - 1))]))
    (HF:Hid (∀k,k+1<n→((qB t total o (k+1)).frm:Int)≤(Qp t.fn (t.rowsOf total) o k:Int)∧(Qp t.fn (t.rowsOf total) o k:Int)≤18446744073709551615)) (w:World):
    Calls Tryz.prog 68 #[t.val,.int .u64 total,.int .u64 o] w fun e w'=> ∃v,e= .returned (.tuple #[v,.int .i64 0])∧w'.ownsRow w.heap.size 127 7 v (n - 1) (yO t total o (n - 1))∧Below w.heap.size w w':=by
  obtain⟨i0,hi,af,ag,ae⟩:=info_parts qfn;have S0:=hid (HS.out 0 (by omega));have W0:=hid (HW.out 0 (by omega));unfold TreeV.val at*;have q0:decide (0=n - 1)=false:=decide_eq_false (by omega);rw[q0]at S0 W0;simp only[Qp,Int.natCast_zero]at S0 W0;go_enter Tryz.func68,Tryz.ntmps68
  go_wp2_with fail
  refine(S0.out _).mono ?_;rintro r w1 ⟨rfl,X⟩;have ah:=X.size;simp at ah
  have k1:w.heap.size<w1.heap.size:=by omega
  have ak:Below w.heap.size w w1:=qu _ X;obtain⟨ay,aA⟩:=Q5 X;clear X;go_wp2_with fail
  go_loopw [10] (fun v wr=>qh7 t total o n w1 v wr) (fun v _=>n - Zf v)
  case atStart=>
    refine⟨0,by omega,rfl,Wo _ _ _ _,(Below.refl _ w1).alloc Nl _,?_⟩;rw[q0];exact Wn _ _
  case round=>
    obtain⟨k,hk,ap,I,hb,G⟩:=hrel;have ax:=hb.size;obtain⟨av,au⟩:=Q5 hb;have az:w1.heap.size<wr.heap.size:=(Ai G).1;have BX:=hid G;obtain⟨c0,c1,c2,c3,c4,c5,cf⟩:=jl G;clear G;obtain⟨ga,gc,rfl⟩:=ym I;by_cases q:k=n - 1
    · have q1:decide (k=n - 1)=true:=decide_eq_true q
      rw[q1]at c5;go_wp2
      refine Bp (results_tmp2 (fn:=Tryz.f68) (t:=6) (u:=7) rfl _ _ _) rfl ⟨_,rfl,?_,ak.trans (hb.mono (by omega))⟩;rw[←q];exact ownsRow_le I (by omega)
    · have q1:decide (k=n - 1)=false:=decide_eq_false q
      rw[q1]at c5;obtain⟨aq,ar⟩:=HF.out k (by omega);go_wp2_with fail
      refine(HP.out k (by omega) _).mono ?_;rintro r w3 ⟨rfl,J⟩;have al:=J.size;obtain⟨d0,d1,d2,d3,d4,d5,df⟩:=jl ((J.block _ (by omega)).trans BX.out);have ab:Below w1.heap.size w1 w3:=hb.trans (J.mono (by omega));obtain⟨aB,aD⟩:=Q5 ab;have S1:=HS.out (k+1) (by omega);simp only[Int.natCast_add,Int.natCast_one]at S1;have S1:=hid S1;go_wp2_with fail
      refine(S1.out _).mono ?_;rintro r Z ⟨rfl,Y⟩;have aw:=Y.size;have ao:w1.heap.size<Z.heap.size:=by omega
      have E4:=(Y.block _ (by omega)).trans ((J.block _ (by omega)).trans BX.out);have am:=hid E4;obtain⟨e0,e1,e2,e3,e4,e5,ef⟩:=jl E4;have aj:Below w1.heap.size w1 Z:=ab.trans (Y.mono (by omega));have U:=jc I (fun g _ g2=>(J.trans (Y.mono al)).block g g2);have O:=hid U;clear E4 U I;go_wp2_with (at_builtin;refine wpList_append_own _ rfl _ _ 121 rfl (w1.heap.size+1) 127 i0 _ 7 48 Tryz.underlying121 hi af ag ae rfl (by decide) (.slice ga k gc) k (yO t total o k) rfl ?_ ⟨Z.heap.size+1,0,none⟩ 1 1 [.int .i64 ((k:Int)+1),.int .u64 (Qp t.fn (t.rowsOf total) o (k+1):Nat),.int .u64 (qB t total o (k+1)).frm,.int .u64 (qB t total o (k+1)).to_,.bool (qB t total o (k+1)).last,.bool (decide (k+1=n - 1)),.int .u64 ((Qp t.fn (t.rowsOf total) o k:Int) - ((qB t total o (k+1)).frm:Int))] rfl rfl ?_ (by simp[Value.oneCell']) (by unfold maxLen;omega) (by omega) (by simp;omega) ?_;exact(O.out.alloc _).alloc _;exact qfy _ _ _ _ _ _ _ _ _ _ (by simp);intro v' w5 V D _;have U5:w5.heap[Z.heap.size]? =some (Obj.cells #[.int .i64 ((k:Int)+1),.int .u64 (Qp t.fn (t.rowsOf total) o (k+1):Nat),.int .u64 (qB t total o (k+1)).frm,.int .u64 (qB t total o (k+1)).to_,.bool (qB t total o (k+1)).last,.bool (decide (k+1=n - 1))] 96 (0,0)):=(D.block Z.heap.size (by simp;omega) (fun e=>absurd ((O.out.lt _ e.symm).2) (Nat.lt_irrefl _))).trans ((Bh _ _ _ (by simp)).trans (Wn _ _));have S5:=(D.block w1.heap.size (by simp;omega) (fun e=>absurd ((O.out.lt _ e.symm).1) (by omega))).trans ((Bh _ _ _ (by simp;omega)).trans ((Bh _ _ _ ao).trans am.out));obtain⟨u0,u1,u2,u3,u4,u5,uf⟩:=jl U5;obtain⟨s0,s1,s2,s3,s4,s5,sf⟩:=jl S5;have an:=hid S5;clear U5 S5)
      obtain⟨g2,ac,rfl⟩:=ownsRow_form V (by omega);have hW:=HW.out (k+1) (by omega);simp only[Int.natCast_add,Int.natCast_one]at hW;have ai:Below w1.heap.size w1 w5:=((aj.alloc (by omega) _).alloc (by simp;omega) _).grown D (by simp;omega) (fun j e=>by have:=(O.out.lt j e).1;omega);have ad:=ya an.out (.int .i64 ((k:Int)+1)) (.int .u64 (Qp t.fn (t.rowsOf total) o (k+1):Nat)) (.int .u64 (qB t total o (k+1)).frm) (.int .u64 (qB t total o (k+1)).to_) (.bool (qB t total o (k+1)).last) (.bool (decide (k+1=n - 1)));refine⟨⟨k+1,by omega,rfl,?_,yb ai Nl (.int .i64 ((k:Int)+1)) (.int .u64 (Qp t.fn (t.rowsOf total) o (k+1):Nat)) (.int .u64 (qB t total o (k+1)).frm) (.int .u64 (qB t total o (k+1)).to_) (.bool (qB t total o (k+1)).last) (.bool (decide (k+1=n - 1))),?_⟩,by simp[Zf];omega⟩
      · have aa:w5.ownsRow (w1.heap.size+1) 127 7 (.slice (some ⟨g2,0,none⟩) (k+1) ac) (k+1) (yO t total o (k+1)):=by
          show w5.ownsRow _ _ 7 _ _ (yO t total o k++((qB t total o (k+1)).cellsL++_))
          rw[hW];exact V
        exact(ownsRow_setCell_below (ownsRow_setCell_below (ownsRow_setCell_below (ownsRow_setCell_below (ownsRow_setCell_below (ownsRow_setCell_below aa (a:=⟨w1.heap.size,0,none⟩) (Nat.lt_succ_self _) _) (a:=⟨w1.heap.size,1,none⟩) (Nat.lt_succ_self _) _) (a:=⟨w1.heap.size,2,none⟩) (Nat.lt_succ_self _) _) (a:=⟨w1.heap.size,3,none⟩) (Nat.lt_succ_self _) _) (a:=⟨w1.heap.size,4,none⟩) (Nat.lt_succ_self _) _) (a:=⟨w1.heap.size,5,none⟩) (Nat.lt_succ_self _) _)
      · simp only[Int.natCast_add,Int.natCast_one]
        exact ad
theorem qfJ (t:TreeV)(total o:Nat){U z1 z2 I:Int}{V O:Bool}{e:Int}
    (J:Hid (∀w,Calls Tryz.prog 105 #[t.val,.int .u64 total,.int .i64 0,.int .u64 o] w fun r w'=>r= .returned (.tuple #[.agg #[.int .i64 U,.int .u64 z1,.int .u64 z2,.int .u64 I,.bool V,.bool O],.int .i64 e])∧Below w.heap.size w w')) (X:(e != 0)=true) (w:World):
    Calls Tryz.prog 68 #[t.val,.int .u64 total,.int .u64 o] w fun r w'=>r= .returned (.tuple #[.slice none 0 0,.int .i64 e])∧Below w.heap.size w w':=by
  unfold TreeV.val at*;go_enter Tryz.func68,Tryz.ntmps68
  go_wp2_with fail
  refine(J.out _).mono ?_;rintro r w1 ⟨rfl,D⟩;have G:=D.size;simp at G
  have q:Below w.heap.size w w1:=qu _ D;go_wp2
  refine Bp (results_tmp2 (fn:=Tryz.f68) (t:=6) (u:=7) rfl _ _ _) rfl ⟨rfl,?_⟩;first|exact q|exact q.alloc (by omega) _
theorem qbj (t:TreeV)(total o:Nat){U z1 z2 I:Int}{V O:Bool}{e:Int}
    (J:Hid (∀w,Calls Tryz.prog 52 #[t.val,.int .u64 total,.int .i64 0,.int .u64 o] w fun r w'=>r= .returned (.tuple #[.agg #[.int .i64 U,.int .u64 z1,.int .u64 z2,.int .u64 I,.bool V,.bool O],.int .i64 e])∧Below w.heap.size w w')) (X:(e != 0)=true) (w:World):
    Calls Tryz.prog 70 #[t.val,.int .u64 total,.int .u64 o] w fun r w'=>r= .returned (.tuple #[.slice none 0 0,.int .i64 e])∧Below w.heap.size w w':=by
  unfold TreeV.val at*;go_enter Tryz.func70,Tryz.ntmps70
  go_wp2_with fail
  refine(J.out _).mono ?_;rintro r w1 ⟨rfl,D⟩;have G:=D.size;simp at G
  have q:Below w.heap.size w w1:=qu _ D;go_wp2
  refine Bp (results_tmp2 (fn:=Tryz.f70) (t:=6) (u:=7) rfl _ _ _) rfl ⟨rfl,?_⟩;first|exact q|exact q.alloc (by omega) _
theorem Yi (s:SpotV):s.cellsL.length=6:=rfl
theorem zu (t:TreeV)(total o:Nat): ∀k,(yO t total o k).length=7*k
  | 0=>rfl
  | k+1=>by
    have:=zu t total o k
    simp only[yO,List.length_append,this,Yi,List.length_cons,List.length_nil];omega
theorem jX (t:TreeV)(total o:Nat): ∀k,(zv t total o k).length=6*k
  | 0=>rfl
  | k+1=>by
    have:=jX t total o k
    simp only[zv,List.length_append,this,Yi];omega
theorem QC (t:TreeV)(total o:Nat): ∀m i c,i<m→c<6→(yO t total o m)[7*i+c]? =(qB t total o (i+1)).cellsL[c]?
  | m+1,i,c,h,hc=>by
    have q:=zu t total o m;show(yO t total o m++_)[7*i+c]? =_
    by_cases r:i=m
    · subst r
      rw[List.getElem?_append_right (by omega),q,show 7*i+c - 7*i=c by omega,List.getElem?_append_left (by rw[Yi];exact hc)]
    · rw[List.getElem?_append_left (by omega)]
      exact QC t total o m i c (by omega) hc
theorem yE (t:TreeV)(total o:Nat): ∀m i c,i<m→c<6→(zv t total o m)[6*i+c]? =(qB t total o i).cellsL[c]?
  | m+1,i,c,h,hc=>by
    have q:=jX t total o m;show(zv t total o m++_)[6*i+c]? =_
    by_cases r:i=m
    · subst r
      rw[List.getElem?_append_right (by omega),q,show 6*i+c - 6*i=c by omega]
    · rw[List.getElem?_append_left (by omega)]
      exact yE t total o m i c (by omega) hc
theorem Zq (t:TreeV)(total o:Nat): ∀m i,i<m→(yO t total o m)[7*i+6]? =some (.int .u64 ((Qp t.fn (t.rowsOf total) o i:Int) - ((qB t total o (i+1)).frm:Int)))
  | m+1,i,h=>by
    have q:=zu t total o m;show(yO t total o m++_)[7*i+6]? =_
    by_cases r:i=m
    · subst r
      rw[List.getElem?_append_right (by omega),q,show 7*i+6 - 7*i=6 by omega,List.getElem?_append_right (by rw[Yi];omega),Yi];rfl
    · rw[List.getElem?_append_left (by omega)]
      exact Zq t total o m i (by omega)
def qck (t:TreeV)(total leaf:Nat):Nat→Int
  | 0=>0
  | k+1=>IntKind.u64.wrap (qck t total leaf k+(((qB t total leaf (k+1)).to_:Int) - ((qB t total leaf (k+1)).frm:Int) - 1))
theorem qdZ (t:TreeV)(total o:Nat){n:Nat}(hn:2≤n)(ab:n≤255)
    (Y:Hid (∀w,Calls Tryz.prog 70 #[t.val,.int .u64 total,.int .u64 o] w fun e w'=> ∃v,e= .returned (.tuple #[v,.int .i64 0])∧w'.ownsRow w.heap.size 96 6 v n (zv t total o n)∧Below w.heap.size w w'))
    (Z:Hid (∀k,1≤k→k<n→((qB t total o k).frm:Int)+1≤((qB t total o k).to_:Int)∧((qB t total o k).to_:Int)≤18446744073709551615)) (w:World):
    Calls Tryz.prog 31 #[t.val,.int .u64 total,.int .u64 o] w fun e w'=>e= .returned (.tuple #[.int .u64 (qck t total o (n - 1)),.int .i64 0])∧Below w.heap.size w w':=by
  unfold TreeV.val at*;go_enter Tryz.func31,Tryz.ntmps31
  go_wp2_with fail
  refine(Y.out _).mono ?_;rintro r w1 ⟨v,rfl,q,I⟩;obtain⟨g,ad,rfl⟩:=ownsRow_form q (by omega);have O:=(q.lt g (by simp[Value.ownBlock])).2;have U:Below w.heap.size w w1:=qu _ I;go_wp2_with fail
  have V:=hid q;clear q;have J:=I.size;simp at J
  go_loopw [10,11] (fun s i wr=> ∃j:Nat,j+1≤n∧s= .int .u64 (qck t total o j)∧i= .int .i64 ((j:Int)+1)∧Below w1.heap.size w1 wr) (fun _ i _=>n - (intOf i).toNat)
  case atStart=>exact⟨0,by omega,rfl,rfl,Below.refl _ _⟩
  case round=>
    obtain⟨j,hj,rfl,rfl,G⟩:=hrel;by_cases D:j+1<n
    · have e3:wr.cell? ⟨g,6*(j+1)+3,none⟩=some (.int .u64 (qB t total o (j+1)).to_):=(G.cell (p:=⟨g,6*(j+1)+3,none⟩) O).trans ((V.out.cellAt (6*(j+1)+3) (by omega)).trans (yE t total o n (j+1) 3 D (by omega)))
      have X:wr.cell? ⟨g,6*(j+1)+2,none⟩=some (.int .u64 (qB t total o (j+1)).frm):=(G.cell (p:=⟨g,6*(j+1)+2,none⟩) O).trans ((V.out.cellAt (6*(j+1)+2) (by omega)).trans (yE t total o n (j+1) 2 D (by omega)));obtain⟨f1,f2⟩:=Z.out (j+1) (by omega) D;have ac:wr.cell? ⟨g,(j+1)*6+3,none⟩=some (.int .u64 (qB t total o (j+1)).to_):=by rw[show(j+1)*6+3=6*(j+1)+3 by omega];exact e3
      have aa:wr.cell? ⟨g,(j+1)*6+2,none⟩=some (.int .u64 (qB t total o (j+1)).frm):=by rw[show(j+1)*6+2=6*(j+1)+2 by omega];exact X
      go_wp2
      go_quiet (fail)
      go_wp2
      exact⟨⟨j+1,by omega,rfl,by simp,G.trans (below_draws _ _ _)⟩,by simp[intOf];omega⟩
    · go_wp2
      refine Bp (results_tmp2 (fn:=Tryz.f31) (t:=6) (u:=7) rfl _ _ _) rfl ⟨by rw[show n - 1=j by omega];rfl,U.trans (G.mono (by omega))⟩
theorem qil (t:TreeV)(total o:Nat){n:Nat}(hn:2≤n)(Z:n≤255)
    (X:Hid (∀w,Calls Tryz.prog 68 #[t.val,.int .u64 total,.int .u64 o] w fun e w'=> ∃v,e= .returned (.tuple #[v,.int .i64 0])∧w'.ownsRow w.heap.size 127 7 v (n - 1) (yO t total o (n - 1))∧Below w.heap.size w w'))
    (Y:Hid (∀k,1≤k→k<n→((qB t total o k).frm:Int)+1≤((qB t total o k).to_:Int)∧((qB t total o k).to_:Int)≤18446744073709551615)) (w:World):
    Calls Tryz.prog 30 #[t.val,.int .u64 total,.int .u64 o] w fun e w'=>e= .returned (.tuple #[.int .u64 (qck t total o (n - 1)),.int .i64 0])∧Below w.heap.size w w':=by
  obtain⟨m,rfl⟩: ∃m,n=m+1:=⟨n - 1,by omega⟩;rw[Nat.add_sub_cancel]at X⊢;unfold TreeV.val at*;go_enter Tryz.func30,Tryz.ntmps30
  go_wp2_with fail
  refine(X.out _).mono ?_;rintro r w1 ⟨v,rfl,G,O⟩;obtain⟨g,ab,rfl⟩:=ownsRow_form G (by omega);have I:=(G.lt g (by simp[Value.ownBlock])).2;have V:Below w.heap.size w w1:=qu _ O;have J:=hid G;clear G;have U:=O.size;simp at U
  go_wp2_with fail
  go_loopw [10,22] (fun s i wr=> ∃j:Nat,j≤m∧s= .int .u64 (qck t total o j)∧i= .int .i64 (j:Nat)∧Below w1.heap.size w1 wr) (fun _ i _=>m - (intOf i).toNat)
  case atStart=>exact⟨0,by omega,rfl,rfl,Below.refl _ _⟩
  case round=>
    obtain⟨j,hj,rfl,rfl,D⟩:=hrel;by_cases q:j<m
    · obtain⟨f1,f2⟩:=Y.out (j+1) (by omega) (by omega)
      have aa:=D.size;have e0:wr.cell? ⟨g,j*7,none⟩=some (.int .i64 (qB t total o (j+1)).row):=by rw[show j*7=7*j+0 by omega];exact(D.cell (p:=⟨g,7*j+0,none⟩) I).trans ((J.out.cellAt (7*j+0) (by omega)).trans (QC t total o m j 0 q (by omega)))
      have e1:wr.cell? ⟨g,j*7+1,none⟩=some (.int .u64 (qB t total o (j+1)).at_):=by rw[show j*7+1=7*j+1 by omega];exact(D.cell (p:=⟨g,7*j+1,none⟩) I).trans ((J.out.cellAt (7*j+1) (by omega)).trans (QC t total o m j 1 q (by omega)))
      have e2:wr.cell? ⟨g,j*7+2,none⟩=some (.int .u64 (qB t total o (j+1)).frm):=by rw[show j*7+2=7*j+2 by omega];exact(D.cell (p:=⟨g,7*j+2,none⟩) I).trans ((J.out.cellAt (7*j+2) (by omega)).trans (QC t total o m j 2 q (by omega)))
      have e3:wr.cell? ⟨g,j*7+3,none⟩=some (.int .u64 (qB t total o (j+1)).to_):=by rw[show j*7+3=7*j+3 by omega];exact(D.cell (p:=⟨g,7*j+3,none⟩) I).trans ((J.out.cellAt (7*j+3) (by omega)).trans (QC t total o m j 3 q (by omega)))
      have e4:wr.cell? ⟨g,j*7+4,none⟩=some (.bool (qB t total o (j+1)).last):=by rw[show j*7+4=7*j+4 by omega];exact(D.cell (p:=⟨g,7*j+4,none⟩) I).trans ((J.out.cellAt (7*j+4) (by omega)).trans (QC t total o m j 4 q (by omega)))
      have e5:wr.cell? ⟨g,j*7+5,none⟩=some (.bool (qB t total o (j+1)).root):=by rw[show j*7+5=7*j+5 by omega];exact(D.cell (p:=⟨g,7*j+5,none⟩) I).trans ((J.out.cellAt (7*j+5) (by omega)).trans (QC t total o m j 5 q (by omega)))
      have e6:wr.cell? ⟨g,j*7+6,none⟩=some (.int .u64 ((Qp t.fn (t.rowsOf total) o j:Int) - ((qB t total o (j+1)).frm:Int))):=by rw[show j*7+6=7*j+6 by omega];exact(D.cell (p:=⟨g,7*j+6,none⟩) I).trans ((J.out.cellAt (7*j+6) (by omega)).trans (Zq t total o m j q))
      go_wp2
      exact⟨⟨j+1,by omega,rfl,by simp,D.alloc (by omega) _⟩,by simp[intOf];omega⟩
    · go_wp2
      refine Bp (results_tmp2 (fn:=Tryz.f30) (t:=6) (u:=7) rfl _ _ _) rfl ⟨by rw[show m=j by omega];rfl,V.trans (D.mono (by omega))⟩
theorem qg4 (t:TreeV)(total o:Nat){e:Int}
    (G:Hid (∀w,Calls Tryz.prog 68 #[t.val,.int .u64 total,.int .u64 o] w fun r w'=>r= .returned (.tuple #[.slice none 0 0,.int .i64 e])∧Below w.heap.size w w')) (w:World):
    Calls Tryz.prog 30 #[t.val,.int .u64 total,.int .u64 o] w fun r w'=>r= .returned (.tuple #[.int .u64 0,.int .i64 e])∧Below w.heap.size w w':=by
  unfold TreeV.val at*;go_enter Tryz.func30,Tryz.ntmps30
  go_wp2_with fail
  refine(G.out _).mono ?_;rintro r w1 ⟨rfl,q⟩;have D:Below w.heap.size w w1:=qu _ q;go_wp2_with fail
  go_loopw [10,22] (fun s i wr=>s= .int .u64 0∧i= .int .i64 0∧w1=wr) (fun _ _ _=>0)
  case atStart=>exact⟨rfl,rfl,rfl⟩
  case round=>
    obtain⟨rfl,rfl,rfl⟩:=hrel;go_wp2
    exact Bp (results_tmp2 (fn:=Tryz.f30) (t:=6) (u:=7) rfl _ _ _) rfl ⟨rfl,D⟩
theorem qdM (t:TreeV)(total o:Nat){e:Int}
    (G:Hid (∀w,Calls Tryz.prog 70 #[t.val,.int .u64 total,.int .u64 o] w fun r w'=>r= .returned (.tuple #[.slice none 0 0,.int .i64 e])∧Below w.heap.size w w')) (w:World):
    Calls Tryz.prog 31 #[t.val,.int .u64 total,.int .u64 o] w fun r w'=>r= .returned (.tuple #[.int .u64 0,.int .i64 e])∧Below w.heap.size w w':=by
  unfold TreeV.val at*;go_enter Tryz.func31,Tryz.ntmps31
  go_wp2_with fail
  refine(G.out _).mono ?_;rintro r w1 ⟨rfl,q⟩;have D:Below w.heap.size w w1:=qu _ q;go_wp2_with fail
  go_loopw [10,11] (fun s i wr=>s= .int .u64 0∧i= .int .i64 1∧w1=wr) (fun _ _ _=>0)
  case atStart=>exact⟨rfl,rfl,rfl⟩
  case round=>
    obtain⟨rfl,rfl,rfl⟩:=hrel;go_wp2
    exact Bp (results_tmp2 (fn:=Tryz.f31) (t:=6) (u:=7) rfl _ _ _) rfl ⟨rfl,D⟩
end Go.Proofs.YthjoojnlnlmljaaGreat
namespace Go.Proofs.YthjoojnlnlmljaaGreat
open Go.ChangeShapes Go.WideShapes Go.ChangeAt Go.RowKit Go.Joins Go.Shelf Go.Maps
open Go.Lib (hid)
theorem Zs {f l total:Nat}{L:List Nat}{row at_:Nat}(h:1≤row∧nth L row=1):QT f l total L row at_=⟨row,at_,0,nth L (row - 1),decide (at_=nth L row - 1),true⟩:=by
  unfold QT;rw[if_pos h]
theorem zk {f l total:Nat}{L:List Nat}{row at_:Nat}(h: ¬(1≤row∧nth L row=1))(o:at_=nth L row - 1):QT f l total L row at_=⟨row,at_,at_*(if row=0 then l else f),if row=0 then total else nth L (row - 1),true,false⟩:=by
  unfold QT;rw[if_neg h,if_pos o]
theorem zK {f l total:Nat}{L:List Nat}{row at_:Nat}(h: ¬(1≤row∧nth L row=1))(o: ¬at_=nth L row - 1):QT f l total L row at_=⟨row,at_,at_*(if row=0 then l else f),(at_+1)*(if row=0 then l else f),false,false⟩:=by
  unfold QT;rw[if_neg h,if_neg o]
theorem qcI {f p total l:Nat}{L:List Nat}(h:RowsIs f p (lvs total l) L){k at_:Nat}(U:k+1<L.length)(J:at_<nth L k):
    (if nth L (k+1)=1 then 0 else at_/f)<nth L (k+1)∧(QT f l total L (k+1) (if nth L (k+1)=1 then 0 else at_/f)).frm≤at_∧at_<(QT f l total L (k+1) (if nth L (k+1)=1 then 0 else at_/f)).to_:=by
  by_cases o:nth L (k+1)=1
  · rw[if_pos o,Zs ⟨by omega,o⟩]
    refine⟨by omega,Nat.zero_le _,?_⟩;rw[Nat.add_sub_cancel];exact J
  · rw[if_neg o]
    obtain⟨e,V⟩:=h.next_or U o;have r:0<f:=by omega
    have d1:=Nat.div_add_mod at_ f;have d2:=Nat.mod_lt at_ r;have O:at_/f<qR (nth L k) f:=by
      rcases Nat.lt_or_ge (at_/f) (qR (nth L k) f)with q|q
      · exact q
      · have:=JS (by omega) q
        rw[Nat.mul_comm]at this;omega
    have G: ¬(1≤k+1∧nth L (k+1)=1):=fun h=>o h.2
    have I:at_/f*f≤at_:=Nat.div_mul_le_self _ _;refine⟨by rw[e];exact O,?_⟩;by_cases D:at_/f=nth L (k+1) - 1
    · rw[zk G D]
      simp only[Nat.succ_ne_zero,if_false,Nat.add_sub_cancel];exact⟨I,J⟩
    · rw[zK G D]
      simp only[Nat.succ_ne_zero,if_false];refine⟨I,?_⟩;rw[Nat.add_mul,Nat.one_mul,Nat.mul_comm (at_/f) f];omega
theorem Yy {f p total l:Nat}{L:List Nat}(r:1≤l)(h:RowsIs f p (lvs total l) L){k A:Nat}(G:k<L.length)(I:1≤k)(D:A<nth L k):(QT f l total L k A).to_≤nth L (k - 1):=by
  by_cases o:1≤k∧nth L k=1
  · rw[Zs o];exact Nat.le_refl _
  · obtain⟨b1,b2,J⟩:=ZY r h G D o
    rw[if_neg (show ¬k=0 by omega),if_neg (show ¬k=0 by omega)]at b1 b2;by_cases q:A=nth L k - 1
    · rw[zk o q]
      show(if k=0 then total else nth L (k - 1))≤_
      rw[if_neg (by omega)];exact Nat.le_refl _
    · rw[zK o q]
      show(A+1)*(if k=0 then l else f)≤_
      rw[if_neg (by omega)];exact b2 q
def TreeV.sizeR (t:TreeV)(total leaf:Nat):Int:=if t.spotE total 0 leaf≠0 then 0 else qck t total leaf ((t.rowsOf total).length - 1)
structure WayFacts (t:TreeV)(total leaf n:Nat):Prop where
  two:2≤n
  most:n≤255
  cells: ∀k,k<n→(qB t total leaf k).cellsL=[.int .i64 (k:Nat),.int .u64 (Qp t.fn (t.rowsOf total) leaf k:Nat),.int .u64 (qB t total leaf k).frm,.int .u64 (qB t total leaf k).to_,.bool (qB t total leaf k).last,.bool (decide (k=n - 1))]
  child: ∀k,k+1<n→((qB t total leaf (k+1)).frm:Int)≤(Qp t.fn (t.rowsOf total) leaf k:Int)∧(Qp t.fn (t.rowsOf total) leaf k:Int)≤18446744073709551615
  wide: ∀k,1≤k→k<n→((qB t total leaf k).frm:Int)+1≤((qB t total leaf k).to_:Int)∧((qB t total leaf k).to_:Int)≤18446744073709551615
  par: ∀k,k+1<n→t.parE total k (Qp t.fn (t.rowsOf total) leaf k)=0∧t.parV total k (Qp t.fn (t.rowsOf total) leaf k)=Qp t.fn (t.rowsOf total) leaf (k+1)
  spot: ∀k,k<n→t.spotE total k (Qp t.fn (t.rowsOf total) leaf k)=0∧(t.spotR total k (Qp t.fn (t.rowsOf total) leaf k)).val= .agg #[.int .i64 (k:Nat),.int .u64 (Qp t.fn (t.rowsOf total) leaf k:Nat),.int .u64 (qB t total leaf k).frm,.int .u64 (qB t total leaf k).to_,.bool (qB t total leaf k).last,.bool (decide (k=n - 1))]
  at_: ∀k,k<n→(Qp t.fn (t.rowsOf total) leaf k:Int)≤18446744073709551615
theorem YN {t:TreeV}(hl:0≤t.l∧t.l≤4294967295){total:Nat}(ht:(total:Int)≤18446744073709551615){o:Nat}(h:t.spotE total 0 o=0):WayFacts t total o (t.rowsOf total).length:=by
  have D:t.err total=0:=by
    by_cases h':t.err total=0
    · exact h'
    · unfold TreeV.spotE at h;rw[if_pos h']at h;exact absurd h h'
  have q:o<nth (t.rowsOf total) 0:=by
    unfold TreeV.spotE at h;rw[if_neg (by simp[D])]at h;by_cases X:t.there total 0 o
    · exact X.2.2
    · rw[if_neg X]at h;omega
  obtain⟨I,ab,aa,h0⟩:=Qx hl D;have ad:=qo h0;have G:=qM D;have hm:=G.most;have ae:(t.pn:Int)≤255:=by unfold TreeV.pn;omega
  have hA: ∀k,k<(t.rowsOf total).length→(Qp t.fn (t.rowsOf total) o k:Int)≤18446744073709551615:=fun k r=>by
    have:=Yv G q k r
    have:=zl I ht G k r
    omega
  have V: ∀k,k+1<(t.rowsOf total).length→(qB t total o (k+1)).frm≤Qp t.fn (t.rowsOf total) o k∧Qp t.fn (t.rowsOf total) o k<(qB t total o (k+1)).to_:=fun k r=>
    (qcI (l:=t.ln) G r (Yv G q k (by omega))).2
  refine⟨G.len,by omega,fun k r=>?_,fun k r=>?_,fun k ac r=>?_,fun k r=>?_,fun k r=>?_,hA⟩
  · obtain⟨-, -,O,U,J, -⟩:=qa6 D q r
    unfold SpotV.cellsL;rw[O,U,J]
  · have:=(V k r).1
    have:=hA k (by omega)
    omega
  · obtain⟨j,rfl⟩: ∃j,k=j+1:=⟨k - 1,by omega⟩
    have h1:=V j r;have h2:(qB t total o (j+1)).to_≤nth (t.rowsOf total) j:=Yy I G r (by omega) (Yv G q _ r);have h3:=zl I ht G j (by omega);omega
  · obtain⟨Y,Z,O,U,J,r4⟩:=qa6 D q (show k<(t.rowsOf total).length by omega)
    refine⟨?_,r4 (by omega)⟩;unfold TreeV.parE;rw[if_neg (by simp[Y]),Z,J,if_neg (by simp;omega)]
  · obtain⟨Y,Z,O,U,J, -⟩:=qa6 D q r
    refine⟨Y,?_⟩;rw[Z,yt,O,U,J]
theorem qbf (t:TreeV)(D:0≤t.l∧t.l≤4294967295)(total:Nat)(G:(total:Int)≤18446744073709551615)(o:Nat)(w:World):
    Calls Tryz.prog 30 #[t.val,.int .u64 total,.int .u64 o] w fun e w'=>e= .returned (.tuple #[.int .u64 (t.sizeR total o),.int .i64 (t.spotE total 0 o)])∧Below w.heap.size w w':=by
  unfold TreeV.sizeR;by_cases r:t.spotE total 0 o=0
  · rw[if_neg (by simp[r]),r]
    have F:=YN D G r;refine qil t total o F.two F.most (hid fun w=>qgU t total o F.two F.most (hid fun k q w=>?_) (hid fun k q w=>?_) (hid F.cells) (hid F.child) w) (hid F.wide) w
    · have:=Ze t D total G (k:Nat) (Qp t.fn (t.rowsOf total) o k) w
      rw[(F.spot k q).1,(F.spot k q).2]at this;exact this
    · have:=qbu t D total G (k:Nat) (Qp t.fn (t.rowsOf total) o k) (F.at_ k (by omega)) w
      rw[(F.par k q).1,(F.par k q).2]at this;exact this
  · rw[if_pos r]
    have I:=Ze t D total G 0 o;simp only[yt]at I;exact qg4 t total o (hid fun w=>qfJ t total o (hid I) (by rw[bne_iff_ne];exact r) w) w
theorem qdN (t:TreeV)(D:0≤t.l∧t.l≤4294967295)(total:Nat)(G:(total:Int)≤18446744073709551615)(o:Nat)(w:World):
    Calls Tryz.prog 31 #[t.val,.int .u64 total,.int .u64 o] w fun e w'=>e= .returned (.tuple #[.int .u64 (t.sizeR total o),.int .i64 (t.spotE total 0 o)])∧Below w.heap.size w w':=by
  unfold TreeV.sizeR;by_cases r:t.spotE total 0 o=0
  · rw[if_neg (by simp[r]),r]
    have F:=YN D G r;refine qdZ t total o F.two F.most (hid fun w=>qcq t total o F.two F.most (hid fun k q w=>?_) (hid fun k q w=>?_) (hid F.cells) w) (hid F.wide) w
    · have:=yC t D total G (k:Nat) (Qp t.fn (t.rowsOf total) o k) w
      rw[(F.spot k q).1,(F.spot k q).2]at this;exact this
    · have:=j8 t D total G (k:Nat) (Qp t.fn (t.rowsOf total) o k) (F.at_ k (by omega)) w
      rw[(F.par k q).1,(F.par k q).2]at this;exact this
  · rw[if_pos r]
    have I:=yC t D total G 0 o;simp only[yt]at I;exact qdM t total o (hid fun w=>qbj t total o (hid I) (by rw[bne_iff_ne];exact r) w) w
end Go.Proofs.YthjoojnlnlmljaaGreat
