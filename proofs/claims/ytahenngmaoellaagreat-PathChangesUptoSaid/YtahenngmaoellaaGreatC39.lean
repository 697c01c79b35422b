/- The parents of nodes, case by case. No condition. -/
import Derived.Test.YtahenngmaoellaaGreatC30
import Derived.Lib.SmallJoins
import Derived.Maps.AppendAt
import Derived.BigQuiet
import Derived.Deep.QuietTactic
set_option linter.all false
set_option maxRecDepth 100000
set_option maxHeartbeats 8000000
namespace Go.Proofs.YtahenngmaoellaaGreat
open Go.ChangeShapes Go.WideShapes Go.ChangeAt Go.RowKit Go.Joins Go.Shelf Go.Maps
open Go.Lib (hid)
attribute [local go_sem] Oper.semAt_some
theorem qeF (t:TreeV)(total:Nat)(row:Int)(at_:Nat){z0:Int}{z1 z2 z3:Int}{z4:Bool}{z5:Bool}{e:Int}(H1:Hid (∀w,Calls Tryz.prog 92 #[t.val,.int .u64 total,.int .i64 row,.int .u64 at_] w fun r w'=>r= .returned (.tuple #[.agg #[.int .i64 z0,.int .u64 z1,.int .u64 z2,.int .u64 z3,.bool z4,.bool z5],.int .i64 e])∧Below w.heap.size w w'))(he:(e != 0)=true)(w:World):
    Calls Tryz.prog 114 #[t.val,.int .u64 total,.int .i64 row,.int .u64 at_] w fun r w'=>r= .returned (.tuple #[.int .u64 0,.int .i64 e])∧Below w.heap.size w w':=by
  unfold TreeV.val at*;go_enter Tryz.func114,Tryz.ntmps114
  go_wp2_with fail
  refine(H1.out _).mono ?_;rintro r w1 ⟨rfl,hb1⟩;obtain⟨hc,hf1⟩:=yK hb1;have hs1:=hb1.size;simp at hs1
  have k0:w.heap.size<w1.heap.size:=by omega
  have hBW:Below w.heap.size w w1:=qu _ hb1;clear hb1;go_wp2
  refine Bp (results_tmp2 (fn:=Tryz.f114) (t:=8) (u:=9) rfl _ _ _) rfl ⟨rfl,?_⟩;first|exact hBW|exact hBW.alloc (by omega) _
theorem qds (t:TreeV)(total:Nat)(row:Int)(at_:Nat){z0:Int}{z1 z2 z3:Int}{z4:Bool}(H1:Hid (∀w,Calls Tryz.prog 92 #[t.val,.int .u64 total,.int .i64 row,.int .u64 at_] w fun r w'=>r= .returned (.tuple #[.agg #[.int .i64 z0,.int .u64 z1,.int .u64 z2,.int .u64 z3,.bool z4,.bool true],.int .i64 0])∧Below w.heap.size w w'))(w:World):
    Calls Tryz.prog 114 #[t.val,.int .u64 total,.int .i64 row,.int .u64 at_] w fun r w'=>r= .returned (.tuple #[.int .u64 0,.int .i64 6])∧Below w.heap.size w w':=by
  unfold TreeV.val at*;go_enter Tryz.func114,Tryz.ntmps114
  go_wp2_with fail
  refine(H1.out _).mono ?_;rintro r w1 ⟨rfl,hb1⟩;obtain⟨hc,hf1⟩:=yK hb1;have hs1:=hb1.size;simp at hs1
  have k0:w.heap.size<w1.heap.size:=by omega
  have hBW:Below w.heap.size w w1:=qu _ hb1;clear hb1;go_wp2
  refine Bp (results_tmp2 (fn:=Tryz.f114) (t:=8) (u:=9) rfl _ _ _) rfl ⟨rfl,?_⟩;first|exact hBW|exact hBW.alloc (by omega) _
theorem qdt (t:TreeV)(total:Nat)(row:Int)(at_:Nat){z0:Int}{z1 z2 z3:Int}{z4:Bool}{y0:Int}{y1 y2 y3:Int}{y4:Bool}{y6:Int}(H1:Hid (∀w,Calls Tryz.prog 92 #[t.val,.int .u64 total,.int .i64 row,.int .u64 at_] w fun r w'=>r= .returned (.tuple #[.agg #[.int .i64 z0,.int .u64 z1,.int .u64 z2,.int .u64 z3,.bool z4,.bool false],.int .i64 0])∧Below w.heap.size w w'))(H2:Hid (∀w,Calls Tryz.prog 92 #[t.val,.int .u64 total,.int .i64 (row+1),.int .u64 0] w fun r w'=>r= .returned (.tuple #[.agg #[.int .i64 y0,.int .u64 y1,.int .u64 y2,.int .u64 y3,.bool y4,.bool true],.int .i64 y6])∧Below w.heap.size w w'))(hr:0≤row∧row≤254)(w:World):
    Calls Tryz.prog 114 #[t.val,.int .u64 total,.int .i64 row,.int .u64 at_] w fun r w'=>r= .returned (.tuple #[.int .u64 0,.int .i64 0])∧Below w.heap.size w w':=by
  unfold TreeV.val at*;go_enter Tryz.func114,Tryz.ntmps114
  go_wp2_with fail
  refine(H1.out _).mono ?_;rintro r w1 ⟨rfl,hb1⟩;obtain⟨hc,hf1⟩:=yK hb1;have hs1:=hb1.size;simp at hs1
  have k0:w.heap.size<w1.heap.size:=by omega
  have hBW:Below w.heap.size w w1:=qu _ hb1;clear hb1;go_wp2_with fail
  refine(H2.out _).mono ?_;rintro r w2 ⟨rfl,hb2⟩;have hs2:=hb2.size;simp at hs2
  have k2:w.heap.size<w2.heap.size:=by omega
  obtain⟨hc2,hf2⟩:=yK hb2;have hBW2:Below w.heap.size w w2:=(hBW.alloc (by omega) _).trans (hb2.mono (by simp;omega));clear hb2;go_wp2
  refine Bp (results_tmp2 (fn:=Tryz.f114) (t:=8) (u:=9) rfl _ _ _) rfl ⟨rfl,?_⟩;first|exact hBW2|exact hBW2.alloc (by omega) _
theorem qfY (t:TreeV)(total:Nat)(row:Int)(at_:Nat){z0:Int}{z1 z2 z3:Int}{z4:Bool}{y0:Int}{y1 y2 y3:Int}{y4:Bool}{y6:Int}(H1:Hid (∀w,Calls Tryz.prog 92 #[t.val,.int .u64 total,.int .i64 row,.int .u64 at_] w fun r w'=>r= .returned (.tuple #[.agg #[.int .i64 z0,.int .u64 z1,.int .u64 z2,.int .u64 z3,.bool z4,.bool false],.int .i64 0])∧Below w.heap.size w w'))(H2:Hid (∀w,Calls Tryz.prog 92 #[t.val,.int .u64 total,.int .i64 (row+1),.int .u64 0] w fun r w'=>r= .returned (.tuple #[.agg #[.int .i64 y0,.int .u64 y1,.int .u64 y2,.int .u64 y3,.bool y4,.bool false],.int .i64 y6])∧Below w.heap.size w w'))(hr:0≤row∧row≤254)(hf:2≤t.f∧t.f≤255)(ha:(at_:Int)≤18446744073709551615)(w:World):
    Calls Tryz.prog 114 #[t.val,.int .u64 total,.int .i64 row,.int .u64 at_] w fun r w'=>r= .returned (.tuple #[.int .u64 (at_/t.fn:Nat),.int .i64 0])∧Below w.heap.size w w':=by
  have hd0:(t.f==0)=false:=by rw[beq_eq_false_iff_ne];omega
  have hfn:t.f=(t.fn:Int):=by unfold TreeV.fn;omega
  have hq:((at_/t.fn:Nat):Int)=(at_:Int)/t.f:=by rw[hfn];exact Int.natCast_ediv at_ t.fn
  have hq2:=Nat.div_le_self at_ t.fn;have e3:(at_:Int)/t.f≤18446744073709551615:=by rw[←hq];omega
  have e4:0≤(at_:Int)/t.f:=by rw[←hq];exact Int.natCast_nonneg _
  have HQ:=hid hq;clear hq hfn hq2;unfold TreeV.val at*;go_enter Tryz.func114,Tryz.ntmps114
  go_wp2_with fail
  refine(H1.out _).mono ?_;rintro r w1 ⟨rfl,hb1⟩;obtain⟨hc,hf1⟩:=yK hb1;have hs1:=hb1.size;simp at hs1
  have k0:w.heap.size<w1.heap.size:=by omega
  have hBW:Below w.heap.size w w1:=qu _ hb1;clear hb1;go_wp2_with fail
  refine(H2.out _).mono ?_;rintro r w2 ⟨rfl,hb2⟩;have hs2:=hb2.size;simp at hs2
  have k2:w.heap.size<w2.heap.size:=by omega
  obtain⟨hc2,hf2⟩:=yK hb2;have hBW2:Below w.heap.size w w2:=(hBW.alloc (by omega) _).trans (hb2.mono (by simp;omega));clear hb2;go_wp2
  refine Bp (results_tmp2 (fn:=Tryz.f114) (t:=8) (u:=9) rfl _ _ _) rfl ⟨by rw[HQ.out];rfl,?_⟩;first|exact hBW2|exact hBW2.alloc (by omega) _
theorem qdc {f p total l:Nat}{L:List Nat}(h:RowsIs f p (lvs total l) L): ∀k,k<L.length→1≤nth L k
  | 0,_=>by rw[h.first];unfold lvs;omega
  | k+1,hk=>by
    have ih:=qdc h k (by omega);rw[h.next k hk];unfold Q6;split
    · omega
    · exact z8 ih
def TreeV.parV (t:TreeV)(total:Nat)(row:Int)(at_:Nat):Nat:=if t.spotE total row at_≠0∨(t.spotR total row at_).root=true∨nth (t.rowsOf total) (row.toNat+1)=1 then 0 else at_/t.fn
def TreeV.parE (t:TreeV)(total:Nat)(row:Int)(at_:Nat):Int:=if t.spotE total row at_≠0 then t.spotE total row at_ else if(t.spotR total row at_).root=true then 6 else 0
theorem YC (s:SpotV):s.val= .agg #[.int .i64 s.row,.int .u64 s.at_,.int .u64 s.frm,.int .u64 s.to_,.bool s.last,.bool s.root]:=rfl
theorem qel {t:TreeV}(hl:0≤t.l∧t.l≤4294967295){total:Nat}{row:Int}{at_:Nat}(h:t.spotE total row at_=0)(hr:(t.spotR total row at_).root=false):
    t.err total=0∧ ∃k:Nat,row=k∧k+1<(t.rowsOf total).length∧(t.rowsOf total).length≤255∧(nth (t.rowsOf total) (k+1)≠1→2≤t.f∧t.f≤255)∧
      t.spotE total ((k:Int)+1) 0=0∧(t.spotR total ((k:Int)+1) 0).root=decide (nth (t.rowsOf total) (k+1)=1):=by
  by_cases he:t.err total=0
  · refine⟨he,?_⟩
    obtain⟨hl1,hl2,hln,h0⟩:=Qo hl he;have hvf:=qk h0;have hR:=qA he;have hm:=hR.most;have hfn:t.f=(t.fn:Int):=by unfold TreeV.fn;omega
    have hpp:(t.pn:Int)≤255:=by unfold TreeV.pn;omega
    unfold TreeV.spotE at h;rw[if_neg (by simp[he])]at h;by_cases hth:t.there total row at_
    · unfold TreeV.spotR at hr
      rw[if_pos ⟨he,hth⟩]at hr;obtain⟨z0,z1,z2⟩:=hth;obtain⟨k,rfl⟩: ∃k:Nat,row=k:=⟨row.toNat,by omega⟩;rw[Int.toNat_natCast]at hr z1 z2;have hnr: ¬(1≤k∧nth (t.rowsOf total) k=1):=by
        intro hc;unfold TreeV.spot QM at hr;rw[if_pos hc]at hr;simp at hr
      have hk:k+1<(t.rowsOf total).length:=by
        have: ¬k=(t.rowsOf total).length - 1:=fun e=>hnr ((hR.root_iff z1).2 e)
        omega
      have hth2:t.there total ((k:Int)+1) 0:=by
        have e:((k:Int)+1).toNat=k+1:=by omega
        refine⟨by omega,by rw[e];exact hk,by rw[e];exact qdc hR _ hk⟩
      refine⟨k,rfl,hk,by omega,?_,?_,?_⟩
      · intro h1
        have:=(hR.next_or hk h1).2
        omega
      · unfold TreeV.spotE
        rw[if_neg (by simp[he]),if_pos hth2]
      · unfold TreeV.spotR
        rw[if_pos ⟨he,hth2⟩,show((k:Int)+1).toNat=k+1 by omega];unfold TreeV.spot QM;by_cases h1:nth (t.rowsOf total) (k+1)=1
        · rw[if_pos ⟨by omega,h1⟩];simp[h1]
        · rw[if_neg (fun h=>h1 h.2)];split<;>simp[h1]
    · rw[if_neg hth]at h;omega
  · unfold TreeV.spotE at h
    rw[if_pos he]at h;exact absurd h he
theorem qa5 (t:TreeV)(hl:0≤t.l∧t.l≤4294967295)(total:Nat)(ht:(total:Int)≤18446744073709551615)(row:Int)(at_:Nat)(ha:(at_:Int)≤18446744073709551615)(w:World):
    Calls Tryz.prog 114 #[t.val,.int .u64 total,.int .i64 row,.int .u64 at_] w fun r w'=>r= .returned (.tuple #[.int .u64 (t.parV total row at_),.int .i64 (t.parE total row at_)])∧Below w.heap.size w w':=by
  have A1:=hid (fun w=>YT t hl total ht row at_ w);simp only[YC]at A1;unfold TreeV.parV TreeV.parE;by_cases he:t.spotE total row at_=0
  · rw[he]at A1
    cases hr:(t.spotR total row at_).root with
    | true=>
      rw[hr]at A1;rw[if_pos (.inr (.inl rfl)),if_neg (by simp[he]),if_pos rfl];exact qds t total row at_ A1 w
    | false=>
      rw[hr]at A1;obtain⟨he0,k,rfl,hk,hk2,hf,e1,e2⟩:=qel hl he hr;have A2:=hid (fun w=>YT t hl total ht ((k:Int)+1) 0 w);simp only[YC]at A2;rw[e2]at A2;rw[Int.toNat_natCast];by_cases h1:nth (t.rowsOf total) (k+1)=1
      · rw[decide_eq_true h1]at A2
        rw[if_pos (.inr (.inr h1)),if_neg (by simp[he]),if_neg (by simp)];exact qdt t total k at_ A1 A2 (by omega) w
      · rw[decide_eq_false h1]at A2
        rw[if_neg (by simp[he,h1]),if_neg (by simp[he]),if_neg (by simp)];exact qfY t total k at_ A1 A2 (by omega) (hf h1) ha w
  · rw[if_pos (.inl he),if_pos he]
    exact qeF t total row at_ A1 (by rw[bne_iff_ne];exact he) w
end Go.Proofs.YtahenngmaoellaaGreat
namespace Go.Proofs.YtahenngmaoellaaGreat
open Go.ChangeShapes Go.WideShapes Go.ChangeAt Go.RowKit Go.Joins Go.Shelf Go.Maps
open Go.Lib (hid)
theorem qc9 {t:TreeV}{total k at_:Nat}(he:t.err total=0)(hk:k<(t.rowsOf total).length)(ha:at_<nth (t.rowsOf total) k):
    t.spotE total k at_=0∧t.spotR total k at_=QM t.fn t.ln total (t.rowsOf total) k at_:=by
  have hth:t.there total k at_:=⟨by omega,by rw[Int.toNat_natCast];exact hk,by rw[Int.toNat_natCast];exact ha⟩;unfold TreeV.spotE TreeV.spotR;rw[if_neg (by simp[he]),if_pos hth,if_pos ⟨he,hth⟩,Int.toNat_natCast];exact⟨rfl,rfl⟩
def Qr (f:Nat)(L:List Nat)(leaf:Nat):Nat→Nat
  | 0=>leaf
  | k+1=>if nth L (k+1)=1 then 0 else Qr f L leaf k/f
theorem qfZ {f p total l:Nat}{L:List Nat}(h:RowsIs f p (lvs total l) L){k at_:Nat}(hk:k+1<L.length)(ha:at_<nth L k):(if nth L (k+1)=1 then 0 else at_/f)<nth L (k+1):=by
  by_cases h1:nth L (k+1)=1
  · rw[if_pos h1];omega
  · rw[if_neg h1]
    obtain⟨e,hf⟩:=h.next_or hk h1;rw[e];rcases Nat.lt_or_ge (at_/f) (qH (nth L k) f)with h'|h'
    · exact h'
    · have:=jv (by omega) h'
      have d1:=Nat.div_add_mod at_ f;rw[Nat.mul_comm]at this;omega
theorem yC {f p total l:Nat}{L:List Nat}(h:RowsIs f p (lvs total l) L){leaf:Nat}(hl:leaf<nth L 0): ∀k,k<L.length→Qr f L leaf k<nth L k
  | 0,_=>hl
  | k+1,hk=>qfZ h hk (yC h hl k (by omega))
def qw (t:TreeV)(total leaf k:Nat):SpotV:=QM t.fn t.ln total (t.rowsOf total) k (Qr t.fn (t.rowsOf total) leaf k)
theorem ze (f l total:Nat)(L:List Nat)(row at_:Nat):(QM f l total L row at_).row=row∧(QM f l total L row at_).at_=at_∧(QM f l total L row at_).root=decide (1≤row∧nth L row=1):=by
  unfold QM;by_cases h1:1≤row∧nth L row=1
  · rw[if_pos h1];exact⟨rfl,rfl,(decide_eq_true h1).symm⟩
  · rw[if_neg h1]
    split<;>exact⟨rfl,rfl,(decide_eq_false h1).symm⟩
theorem ZC {t:TreeV}{total:Nat}{leaf:Nat}(he:t.err total=0)(hl:leaf<nth (t.rowsOf total) 0){k:Nat}(hk:k<(t.rowsOf total).length):
    t.spotE total k (Qr t.fn (t.rowsOf total) leaf k)=0∧t.spotR total k (Qr t.fn (t.rowsOf total) leaf k)=qw t total leaf k∧(qw t total leaf k).row=k∧(qw t total leaf k).at_=Qr t.fn (t.rowsOf total) leaf k∧
      (qw t total leaf k).root=decide (k=(t.rowsOf total).length - 1)∧(k≠(t.rowsOf total).length - 1→t.parV total k (Qr t.fn (t.rowsOf total) leaf k)=Qr t.fn (t.rowsOf total) leaf (k+1)):=by
  have hR:=qA he;have ha:=yC hR hl k hk;obtain⟨s1,s2⟩:=qc9 he hk ha;obtain⟨r1,r2,r3⟩:=ze t.fn t.ln total (t.rowsOf total) k (Qr t.fn (t.rowsOf total) leaf k);have hroot:decide (1≤k∧nth (t.rowsOf total) k=1)=decide (k=(t.rowsOf total).length - 1):=by
    rw[decide_eq_decide];exact hR.root_iff hk
  refine⟨s1,s2,r1,r2,r3.trans hroot,fun hne=>?_⟩;have hr0:(t.spotR total k (Qr t.fn (t.rowsOf total) leaf k)).root=false:=by
    rw[s2,r3,hroot,decide_eq_false hne]
  unfold TreeV.parV;rw[Int.toNat_natCast];by_cases h1:nth (t.rowsOf total) (k+1)=1
  · rw[if_pos (.inr (.inr h1))]
    show 0=if nth (t.rowsOf total) (k+1)=1 then 0 else _
    rw[if_pos h1]
  · rw[if_neg (by simp[s1,hr0,h1])]
    show _=if nth (t.rowsOf total) (k+1)=1 then 0 else _
    rw[if_neg h1]
end Go.Proofs.YtahenngmaoellaaGreat
namespace Go.Proofs.YtahenngmaoellaaGreat
open Go.ChangeShapes Go.WideShapes Go.ChangeAt Go.RowKit Go.Joins Go.Shelf Go.Maps
open Go.Lib (hid)
attribute [local go_sem] Oper.semAt_some
def SpotV.cellsL (s:SpotV):List Value:=[.int .i64 s.row,.int .u64 s.at_,.int .u64 s.frm,.int .u64 s.to_,.bool s.last,.bool s.root]
def qaS:Value→Nat
  | .slice _ n _=>n
  | _=>0
theorem ZU {W W':World}{base:Nat}{e:TypeId}{size:Nat}{v:Value}{n:Nat}{xs:List Value}(h:W.ownsRow base e size v n xs)(hb: ∀g,base≤g→g<W.heap.size→W'.heap[g]? =W.heap[g]?):W'.ownsRow base e size v n xs:=by
  refine⟨h.1,?_⟩;rcases h.2 with h2|⟨g,cap,cur,h1,h2,h3,h4⟩
  · exact .inl h2
  · exact .inr ⟨g,cap,cur,h1,h2,(hb g h2 (Ai h3).1).trans h3,h4⟩
theorem qbl {W:World}{b:Nat}{a0 a1 a2 a3 a4 a5:Value}{T:TypeId}(h:W.heap[b]? =some (Obj.cells #[a0,a1,a2,a3,a4,a5] T (0,0))):
    W.cell? ⟨b,0,none⟩=some a0∧W.cell? ⟨b,1,none⟩=some a1∧W.cell? ⟨b,2,none⟩=some a2∧W.cell? ⟨b,3,none⟩=some a3∧W.cell? ⟨b,4,none⟩=some a4∧W.cell? ⟨b,5,none⟩=some a5∧ ∀i,W.frozen? ⟨b,i,none⟩=false:=by
  have c0:=qa h 0;have c1:=qa h 1;have c2:=qa h 2;have c3:=qa h 3;have c4:=qa h 4;have c5:=qa h 5;simp only[List.getElem?_toArray,List.getElem?_cons_zero,List.getElem?_cons_succ]at c0 c1 c2 c3 c4 c5;exact⟨c0,c1,c2,c3,c4,c5,fun i=>by simp[World.frozen?,h]⟩
def yD (t:TreeV)(total leaf:Nat):Nat→List Value
  | 0=>[]
  | k+1=>yD t total leaf k++((qw t total leaf (k+1)).cellsL++[.int .u64 ((Qr t.fn (t.rowsOf total) leaf k:Int) - ((qw t total leaf (k+1)).frm:Int))])
theorem qeQ:(Tryz.prog.info? 131).map (fun i=>(i.zero,i.size,i.bytes))=some (some (.agg #[.int .i64 0,.int .u64 0,.int .u64 0,.int .u64 0,.bool false,.bool false,.int .u64 0]),7,48):=by kernel_rfl
theorem qe3 (W:World)(a0 a1 a2 a3 a4 a5 a6:Value)(T:TypeId)(n:Nat)(hn:n=W.heap.size): ∀j u,[a0,a1,a2,a3,a4,a5,a6][j]? =some u→(W.alloc (.cells #[a0,a1,a2,a3,a4,a5,a6] T)).cell? (Addr.add ⟨n,0,none⟩ j)=some u:=by
  subst hn;intro j u hj;have h:=qa (Wn W (.cells #[a0,a1,a2,a3,a4,a5,a6] T)) j;rw[show Addr.add ⟨W.heap.size,0,none⟩ j=⟨W.heap.size,j,none⟩ by first|(simp[Addr.add];done)|(simp[Addr.add];omega),h];rw[←Array.getElem?_toList];exact hj
def qhK (t:TreeV)(total leaf n:Nat)(w1:World)(v:Value)(wr:World):Prop:=
  ∃k,k<n∧qaS v=k∧wr.ownsRow (w1.heap.size+1) 131 7 v k (yD t total leaf k)∧Below w1.heap.size w1 wr∧
    wr.heap[w1.heap.size]? =some (Obj.cells #[.int .i64 (k:Nat),.int .u64 (Qr t.fn (t.rowsOf total) leaf k:Nat),.int .u64 (qw t total leaf k).frm,.int .u64 (qw t total leaf k).to_,.bool (qw t total leaf k).last,.bool (decide (k=n - 1))] 96 (0,0))
theorem zC {w:World}{base size n:Nat}{e:TypeId}{v:Value}{xs:List Value}(h:w.ownsRow base e size v n xs): ∃a c,v= .slice a n c:=by
  rcases ownsRow_forms h with⟨h,h2⟩|⟨g,cap,h⟩
  · exact⟨none,0,by rw[h,h2]⟩
  · exact⟨_,_,h⟩
theorem qgv (t:TreeV)(total leaf:Nat){n:Nat}(hn:2≤n)(hn2:n≤255)
    (HS:Hid (∀k,k<n→ ∀w,Calls Tryz.prog 92 #[t.val,.int .u64 total,.int .i64 (k:Nat),.int .u64 (Qr t.fn (t.rowsOf total) leaf k:Nat)] w fun r w'=>r= .returned (.tuple #[.agg #[.int .i64 (k:Nat),.int .u64 (Qr t.fn (t.rowsOf total) leaf k:Nat),.int .u64 (qw t total leaf k).frm,.int .u64 (qw t total leaf k).to_,.bool (qw t total leaf k).last,.bool (decide (k=n - 1))],.int .i64 0])∧Below w.heap.size w w'))
    (HP:Hid (∀k,k+1<n→ ∀w,Calls Tryz.prog 114 #[t.val,.int .u64 total,.int .i64 (k:Nat),.int .u64 (Qr t.fn (t.rowsOf total) leaf k:Nat)] w fun r w'=>r= .returned (.tuple #[.int .u64 (Qr t.fn (t.rowsOf total) leaf (k+1):Nat),.int .i64 0])∧Below w.heap.size w w'))
    (HW:Hid (∀k,k<n→(qw t total leaf k).cellsL=[.int .i64 (k:Nat),.int .u64 (Qr t.fn (t.rowsOf total) leaf k:Nat),.int .u64 (qw t total leaf k).frm,.int .u64 (qw t total leaf k).to_,.bool (qw t total leaf k).last,.bool (decide (k=n - 1))]))
    (HF:Hid (∀k,k+1<n→((qw t total leaf (k+1)).frm:Int)≤(Qr t.fn (t.rowsOf total) leaf k:Int)∧(Qr t.fn (t.rowsOf total) leaf k:Int)≤18446744073709551615)) (w:World):
    Calls Tryz.prog 72 #[t.val,.int .u64 total,.int .u64 leaf] w fun e w'=> ∃v,e= .returned (.tuple #[v,.int .i64 0])∧w'.ownsRow w.heap.size 131 7 v (n - 1) (yD t total leaf (n - 1))∧Below w.heap.size w w':=by
  obtain⟨i0,hi,hz0,hz1,hz2⟩:=info_parts qeQ;have S0:=hid (HS.out 0 (by omega));have W0:=hid (HW.out 0 (by omega));unfold TreeV.val at*;have q0:decide (0=n - 1)=false:=decide_eq_false (by omega);rw[q0]at S0 W0;simp only[Qr,Int.natCast_zero]at S0 W0;go_enter Tryz.func72,Tryz.ntmps72
  go_wp2_with fail
  refine(S0.out _).mono ?_;rintro r w1 ⟨rfl,hb1⟩;have hs1:=hb1.size;simp at hs1
  have k1:w.heap.size<w1.heap.size:=by omega
  have hB1:Below w.heap.size w w1:=qu _ hb1;obtain⟨hc1,hf1⟩:=yK hb1;clear hb1;go_wp2_with fail
  go_loopw [10] (fun v wr=>qhK t total leaf n w1 v wr) (fun v _=>n - qaS v)
  case atStart=>
    refine⟨0,by omega,rfl,Wo _ _ _ _,(Below.refl _ w1).alloc Nl _,?_⟩;rw[q0];exact Wn _ _
  case round=>
    obtain⟨k,hk,hlen,hown,hb,hbox⟩:=hrel;have hsr:=hb.size;obtain⟨hcr,hfr⟩:=yK hb;have hbs:w1.heap.size<wr.heap.size:=(Ai hbox).1;have BX:=hid hbox;obtain⟨c0,c1,c2,c3,c4,c5,cf⟩:=qbl hbox;clear hbox;obtain⟨ga,gc,rfl⟩:=zC hown;by_cases hroot:k=n - 1
    · have q1:decide (k=n - 1)=true:=decide_eq_true hroot
      rw[q1]at c5;go_wp2
      refine Bp (results_tmp2 (fn:=Tryz.f72) (t:=6) (u:=7) rfl _ _ _) rfl ⟨_,rfl,?_,hB1.trans (hb.mono (by omega))⟩;rw[←hroot];exact ownsRow_le hown (by omega)
    · have q1:decide (k=n - 1)=false:=decide_eq_false hroot
      rw[q1]at c5;obtain⟨hf1',hf2'⟩:=HF.out k (by omega);go_wp2_with fail
      refine(HP.out k (by omega) _).mono ?_;rintro r w3 ⟨rfl,hb3⟩;have hs3:=hb3.size;obtain⟨d0,d1,d2,d3,d4,d5,df⟩:=qbl ((hb3.block _ (by omega)).trans BX.out);have hB3:Below w1.heap.size w1 w3:=hb.trans (hb3.mono (by omega));obtain⟨hc3,hf3⟩:=yK hB3;have S1:=HS.out (k+1) (by omega);simp only[Int.natCast_add,Int.natCast_one]at S1;have S1:=hid S1;go_wp2_with fail
      refine(S1.out _).mono ?_;rintro r w4 ⟨rfl,hb4⟩;have hs4:=hb4.size;have hws:w1.heap.size<w4.heap.size:=by omega
      have E4:=(hb4.block _ (by omega)).trans ((hb3.block _ (by omega)).trans BX.out);have E4':=hid E4;obtain⟨e0,e1,e2,e3,e4,e5,ef⟩:=qbl E4;have hB4:Below w1.heap.size w1 w4:=hB3.trans (hb4.mono (by omega));have hown4:=ZU hown (fun g _ g2=>(hb3.trans (hb4.mono hs3)).block g g2);have HO4:=hid hown4;clear E4 hown4 hown;go_wp2_with (at_builtin;refine wpList_append_own _ rfl _ _ 125 rfl (w1.heap.size+1) 131 i0 _ 7 48 Tryz.underlying125 hi hz0 hz1 hz2 rfl (by decide) (.slice ga k gc) k (yD t total leaf k) rfl ?_ ⟨w4.heap.size+1,0,none⟩ 1 1 [.int .i64 ((k:Int)+1),.int .u64 (Qr t.fn (t.rowsOf total) leaf (k+1):Nat),.int .u64 (qw t total leaf (k+1)).frm,.int .u64 (qw t total leaf (k+1)).to_,.bool (qw t total leaf (k+1)).last,.bool (decide (k+1=n - 1)),.int .u64 ((Qr t.fn (t.rowsOf total) leaf k:Int) - ((qw t total leaf (k+1)).frm:Int))] rfl rfl ?_ (by simp[Value.oneCell']) (by unfold maxLen;omega) (by omega) (by simp;omega) ?_;exact(HO4.out.alloc _).alloc _;exact qe3 _ _ _ _ _ _ _ _ _ _ (by simp);intro v' w5 hown' hgrow _;have U5:w5.heap[w4.heap.size]? =some (Obj.cells #[.int .i64 ((k:Int)+1),.int .u64 (Qr t.fn (t.rowsOf total) leaf (k+1):Nat),.int .u64 (qw t total leaf (k+1)).frm,.int .u64 (qw t total leaf (k+1)).to_,.bool (qw t total leaf (k+1)).last,.bool (decide (k+1=n - 1))] 96 (0,0)):=(hgrow.block w4.heap.size (by simp;omega) (fun e=>absurd ((HO4.out.lt _ e.symm).2) (Nat.lt_irrefl _))).trans ((Bh _ _ _ (by simp)).trans (Wn _ _));have S5:=(hgrow.block w1.heap.size (by simp;omega) (fun e=>absurd ((HO4.out.lt _ e.symm).1) (by omega))).trans ((Bh _ _ _ (by simp;omega)).trans ((Bh _ _ _ hws).trans E4'.out));obtain⟨u0,u1,u2,u3,u4,u5,uf⟩:=qbl U5;obtain⟨s0,s1,s2,s3,s4,s5,sf⟩:=qbl S5;have S5':=hid S5;clear U5 S5)
      obtain⟨g2,cap2,rfl⟩:=ownsRow_form hown' (by omega);have hW:=HW.out (k+1) (by omega);simp only[Int.natCast_add,Int.natCast_one]at hW;have hbB:Below w1.heap.size w1 w5:=((hB4.alloc (by omega) _).alloc (by simp;omega) _).grown hgrow (by simp;omega) (fun j e=>by have:=(HO4.out.lt j e).1;omega);have hset:=yi S5'.out (.int .i64 ((k:Int)+1)) (.int .u64 (Qr t.fn (t.rowsOf total) leaf (k+1):Nat)) (.int .u64 (qw t total leaf (k+1)).frm) (.int .u64 (qw t total leaf (k+1)).to_) (.bool (qw t total leaf (k+1)).last) (.bool (decide (k+1=n - 1)));refine⟨⟨k+1,by omega,rfl,?_,yj hbB Nl (.int .i64 ((k:Int)+1)) (.int .u64 (Qr t.fn (t.rowsOf total) leaf (k+1):Nat)) (.int .u64 (qw t total leaf (k+1)).frm) (.int .u64 (qw t total leaf (k+1)).to_) (.bool (qw t total leaf (k+1)).last) (.bool (decide (k+1=n - 1))),?_⟩,by simp[qaS];omega⟩
      · have hown'':w5.ownsRow (w1.heap.size+1) 131 7 (.slice (some ⟨g2,0,none⟩) (k+1) cap2) (k+1) (yD t total leaf (k+1)):=by
          show w5.ownsRow _ _ 7 _ _ (yD t total leaf k++((qw t total leaf (k+1)).cellsL++_))
          rw[hW];exact hown'
        exact(ownsRow_setCell_below (ownsRow_setCell_below (ownsRow_setCell_below (ownsRow_setCell_below (ownsRow_setCell_below (ownsRow_setCell_below hown'' (a:=⟨w1.heap.size,0,none⟩) (Nat.lt_succ_self _) _) (a:=⟨w1.heap.size,1,none⟩) (Nat.lt_succ_self _) _) (a:=⟨w1.heap.size,2,none⟩) (Nat.lt_succ_self _) _) (a:=⟨w1.heap.size,3,none⟩) (Nat.lt_succ_self _) _) (a:=⟨w1.heap.size,4,none⟩) (Nat.lt_succ_self _) _) (a:=⟨w1.heap.size,5,none⟩) (Nat.lt_succ_self _) _)
      · simp only[Int.natCast_add,Int.natCast_one]
        exact hset
theorem qfg (t:TreeV)(total leaf:Nat){z0 z1 z2 z3:Int}{z4 z5:Bool}{e:Int}
    (HS:Hid (∀w,Calls Tryz.prog 92 #[t.val,.int .u64 total,.int .i64 0,.int .u64 leaf] w fun r w'=>r= .returned (.tuple #[.agg #[.int .i64 z0,.int .u64 z1,.int .u64 z2,.int .u64 z3,.bool z4,.bool z5],.int .i64 e])∧Below w.heap.size w w')) (he:(e != 0)=true) (w:World):
    Calls Tryz.prog 72 #[t.val,.int .u64 total,.int .u64 leaf] w fun r w'=>r= .returned (.tuple #[.slice none 0 0,.int .i64 e])∧Below w.heap.size w w':=by
  unfold TreeV.val at*;go_enter Tryz.func72,Tryz.ntmps72
  go_wp2_with fail
  refine(HS.out _).mono ?_;rintro r w1 ⟨rfl,hb1⟩;have hs1:=hb1.size;simp at hs1
  have hB1:Below w.heap.size w w1:=qu _ hb1;go_wp2
  refine Bp (results_tmp2 (fn:=Tryz.f72) (t:=6) (u:=7) rfl _ _ _) rfl ⟨rfl,?_⟩;first|exact hB1|exact hB1.alloc (by omega) _
theorem YR (s:SpotV):s.cellsL.length=6:=rfl
theorem zl (t:TreeV)(total leaf:Nat): ∀k,(yD t total leaf k).length=7*k
  | 0=>rfl
  | k+1=>by
    have:=zl t total leaf k
    simp only[yD,List.length_append,this,YR,List.length_cons,List.length_nil];omega
theorem Qx (t:TreeV)(total leaf:Nat): ∀m i c,i<m→c<6→(yD t total leaf m)[7*i+c]? =(qw t total leaf (i+1)).cellsL[c]?
  | m+1,i,c,h,hc=>by
    have hl:=zl t total leaf m;show(yD t total leaf m++_)[7*i+c]? =_
    by_cases he:i=m
    · subst he
      rw[List.getElem?_append_right (by omega),hl,show 7*i+c - 7*i=c by omega,List.getElem?_append_left (by rw[YR];exact hc)]
    · rw[List.getElem?_append_left (by omega)]
      exact Qx t total leaf m i c (by omega) hc
theorem Zd (t:TreeV)(total leaf:Nat): ∀m i,i<m→(yD t total leaf m)[7*i+6]? =some (.int .u64 ((Qr t.fn (t.rowsOf total) leaf i:Int) - ((qw t total leaf (i+1)).frm:Int)))
  | m+1,i,h=>by
    have hl:=zl t total leaf m;show(yD t total leaf m++_)[7*i+6]? =_
    by_cases he:i=m
    · subst he
      rw[List.getElem?_append_right (by omega),hl,show 7*i+6 - 7*i=6 by omega,List.getElem?_append_right (by rw[YR];omega),YR];rfl
    · rw[List.getElem?_append_left (by omega)]
      exact Zd t total leaf m i (by omega)
def qfj (t:TreeV)(total leaf:Nat):Nat→Int
  | 0=>0
  | k+1=>IntKind.u64.wrap (qfj t total leaf k+(((qw t total leaf (k+1)).to_:Int) - ((qw t total leaf (k+1)).frm:Int) - 1))
theorem qhU (t:TreeV)(total leaf:Nat){n:Nat}(hn:2≤n)(hn2:n≤255)
    (HW:Hid (∀w,Calls Tryz.prog 72 #[t.val,.int .u64 total,.int .u64 leaf] w fun e w'=> ∃v,e= .returned (.tuple #[v,.int .i64 0])∧w'.ownsRow w.heap.size 131 7 v (n - 1) (yD t total leaf (n - 1))∧Below w.heap.size w w'))
    (HF:Hid (∀k,1≤k→k<n→((qw t total leaf k).frm:Int)+1≤((qw t total leaf k).to_:Int)∧((qw t total leaf k).to_:Int)≤18446744073709551615)) (w:World):
    Calls Tryz.prog 32 #[t.val,.int .u64 total,.int .u64 leaf] w fun e w'=>e= .returned (.tuple #[.int .u64 (qfj t total leaf (n - 1)),.int .i64 0])∧Below w.heap.size w w':=by
  obtain⟨m,rfl⟩: ∃m,n=m+1:=⟨n - 1,by omega⟩;rw[Nat.add_sub_cancel]at HW⊢;unfold TreeV.val at*;go_enter Tryz.func32,Tryz.ntmps32
  go_wp2_with fail
  refine(HW.out _).mono ?_;rintro r w1 ⟨v,rfl,hown,hb1⟩;obtain⟨g,cap,rfl⟩:=ownsRow_form hown (by omega);have hg:=(hown.lt g (by simp[Value.ownBlock])).2;have hB1:Below w.heap.size w w1:=qu _ hb1;have HO:=hid hown;clear hown;have hs1:=hb1.size;simp at hs1
  go_wp2_with fail
  go_loopw [10,22] (fun s i wr=> ∃j:Nat,j≤m∧s= .int .u64 (qfj t total leaf j)∧i= .int .i64 (j:Nat)∧Below w1.heap.size w1 wr) (fun _ i _=>m - (intOf i).toNat)
  case atStart=>exact⟨0,by omega,rfl,rfl,Below.refl _ _⟩
  case round=>
    obtain⟨j,hj,rfl,rfl,hb⟩:=hrel;by_cases hlt:j<m
    · obtain⟨f1,f2⟩:=HF.out (j+1) (by omega) (by omega)
      have hsr:=hb.size;have e0:wr.cell? ⟨g,j*7,none⟩=some (.int .i64 (qw t total leaf (j+1)).row):=by rw[show j*7=7*j+0 by omega];exact(hb.cell (p:=⟨g,7*j+0,none⟩) hg).trans ((HO.out.cellAt (7*j+0) (by omega)).trans (Qx t total leaf m j 0 hlt (by omega)))
      have e1:wr.cell? ⟨g,j*7+1,none⟩=some (.int .u64 (qw t total leaf (j+1)).at_):=by rw[show j*7+1=7*j+1 by omega];exact(hb.cell (p:=⟨g,7*j+1,none⟩) hg).trans ((HO.out.cellAt (7*j+1) (by omega)).trans (Qx t total leaf m j 1 hlt (by omega)))
      have e2:wr.cell? ⟨g,j*7+2,none⟩=some (.int .u64 (qw t total leaf (j+1)).frm):=by rw[show j*7+2=7*j+2 by omega];exact(hb.cell (p:=⟨g,7*j+2,none⟩) hg).trans ((HO.out.cellAt (7*j+2) (by omega)).trans (Qx t total leaf m j 2 hlt (by omega)))
      have e3:wr.cell? ⟨g,j*7+3,none⟩=some (.int .u64 (qw t total leaf (j+1)).to_):=by rw[show j*7+3=7*j+3 by omega];exact(hb.cell (p:=⟨g,7*j+3,none⟩) hg).trans ((HO.out.cellAt (7*j+3) (by omega)).trans (Qx t total leaf m j 3 hlt (by omega)))
      have e4:wr.cell? ⟨g,j*7+4,none⟩=some (.bool (qw t total leaf (j+1)).last):=by rw[show j*7+4=7*j+4 by omega];exact(hb.cell (p:=⟨g,7*j+4,none⟩) hg).trans ((HO.out.cellAt (7*j+4) (by omega)).trans (Qx t total leaf m j 4 hlt (by omega)))
      have e5:wr.cell? ⟨g,j*7+5,none⟩=some (.bool (qw t total leaf (j+1)).root):=by rw[show j*7+5=7*j+5 by omega];exact(hb.cell (p:=⟨g,7*j+5,none⟩) hg).trans ((HO.out.cellAt (7*j+5) (by omega)).trans (Qx t total leaf m j 5 hlt (by omega)))
      have e6:wr.cell? ⟨g,j*7+6,none⟩=some (.int .u64 ((Qr t.fn (t.rowsOf total) leaf j:Int) - ((qw t total leaf (j+1)).frm:Int))):=by rw[show j*7+6=7*j+6 by omega];exact(hb.cell (p:=⟨g,7*j+6,none⟩) hg).trans ((HO.out.cellAt (7*j+6) (by omega)).trans (Zd t total leaf m j hlt))
      go_wp2
      exact⟨⟨j+1,by omega,rfl,by simp,hb.alloc (by omega) _⟩,by simp[intOf];omega⟩
    · go_wp2
      refine Bp (results_tmp2 (fn:=Tryz.f32) (t:=6) (u:=7) rfl _ _ _) rfl ⟨by rw[show m=j by omega];rfl,hB1.trans (hb.mono (by omega))⟩
theorem qgF (t:TreeV)(total leaf:Nat){e:Int}
    (HW:Hid (∀w,Calls Tryz.prog 72 #[t.val,.int .u64 total,.int .u64 leaf] w fun r w'=>r= .returned (.tuple #[.slice none 0 0,.int .i64 e])∧Below w.heap.size w w')) (w:World):
    Calls Tryz.prog 32 #[t.val,.int .u64 total,.int .u64 leaf] w fun r w'=>r= .returned (.tuple #[.int .u64 0,.int .i64 e])∧Below w.heap.size w w':=by
  unfold TreeV.val at*;go_enter Tryz.func32,Tryz.ntmps32
  go_wp2_with fail
  refine(HW.out _).mono ?_;rintro r w1 ⟨rfl,hb1⟩;have hB1:Below w.heap.size w w1:=qu _ hb1;go_wp2_with fail
  go_loopw [10,22] (fun s i wr=>s= .int .u64 0∧i= .int .i64 0∧w1=wr) (fun _ _ _=>0)
  case atStart=>exact⟨rfl,rfl,rfl⟩
  case round=>
    obtain⟨rfl,rfl,rfl⟩:=hrel;go_wp2
    exact Bp (results_tmp2 (fn:=Tryz.f32) (t:=6) (u:=7) rfl _ _ _) rfl ⟨rfl,hB1⟩
end Go.Proofs.YtahenngmaoellaaGreat
namespace Go.Proofs.YtahenngmaoellaaGreat
open Go.ChangeShapes Go.WideShapes Go.ChangeAt Go.RowKit Go.Joins Go.Shelf Go.Maps
open Go.Lib (hid)
theorem Ze {f l total:Nat}{L:List Nat}{row at_:Nat}(h:1≤row∧nth L row=1):QM f l total L row at_=⟨row,at_,0,nth L (row - 1),decide (at_=nth L row - 1),true⟩:=by
  unfold QM;rw[if_pos h]
theorem yM {f l total:Nat}{L:List Nat}{row at_:Nat}(h: ¬(1≤row∧nth L row=1))(h2:at_=nth L row - 1):QM f l total L row at_=⟨row,at_,at_*(if row=0 then l else f),if row=0 then total else nth L (row - 1),true,false⟩:=by
  unfold QM;rw[if_neg h,if_pos h2]
theorem Yk {f l total:Nat}{L:List Nat}{row at_:Nat}(h: ¬(1≤row∧nth L row=1))(h2: ¬at_=nth L row - 1):QM f l total L row at_=⟨row,at_,at_*(if row=0 then l else f),(at_+1)*(if row=0 then l else f),false,false⟩:=by
  unfold QM;rw[if_neg h,if_neg h2]
theorem J1 {f p total l:Nat}{L:List Nat}(h:RowsIs f p (lvs total l) L){k at_:Nat}(hk:k+1<L.length)(ha:at_<nth L k):
    (if nth L (k+1)=1 then 0 else at_/f)<nth L (k+1)∧(QM f l total L (k+1) (if nth L (k+1)=1 then 0 else at_/f)).frm≤at_∧at_<(QM f l total L (k+1) (if nth L (k+1)=1 then 0 else at_/f)).to_:=by
  by_cases h1:nth L (k+1)=1
  · rw[if_pos h1,Ze ⟨by omega,h1⟩]
    refine⟨by omega,Nat.zero_le _,?_⟩;rw[Nat.add_sub_cancel];exact ha
  · rw[if_neg h1]
    obtain⟨e,hf⟩:=h.next_or hk h1;have hf1:0<f:=by omega
    have d1:=Nat.div_add_mod at_ f;have d2:=Nat.mod_lt at_ hf1;have d3:at_/f<qH (nth L k) f:=by
      rcases Nat.lt_or_ge (at_/f) (qH (nth L k) f)with h'|h'
      · exact h'
      · have:=jv (by omega) h'
        rw[Nat.mul_comm]at this;omega
    have hn: ¬(1≤k+1∧nth L (k+1)=1):=fun h=>h1 h.2
    have d4:at_/f*f≤at_:=Nat.div_mul_le_self _ _;refine⟨by rw[e];exact d3,?_⟩;by_cases h2:at_/f=nth L (k+1) - 1
    · rw[yM hn h2]
      simp only[Nat.succ_ne_zero,if_false,Nat.add_sub_cancel];exact⟨d4,ha⟩
    · rw[Yk hn h2]
      simp only[Nat.succ_ne_zero,if_false];refine⟨d4,?_⟩;rw[Nat.add_mul,Nat.one_mul,Nat.mul_comm (at_/f) f];omega
theorem zd {f p total l:Nat}{L:List Nat}(hl:1≤l)(h:RowsIs f p (lvs total l) L){k A:Nat}(hk:k<L.length)(hk1:1≤k)(ha:A<nth L k):(QM f l total L k A).to_≤nth L (k - 1):=by
  by_cases h1:1≤k∧nth L k=1
  · rw[Ze h1];exact Nat.le_refl _
  · obtain⟨b1,b2,b3⟩:=ZI hl h hk ha h1
    rw[if_neg (show ¬k=0 by omega),if_neg (show ¬k=0 by omega)]at b1 b2;by_cases h2:A=nth L k - 1
    · rw[yM h1 h2]
      show(if k=0 then total else nth L (k - 1))≤_
      rw[if_neg (by omega)];exact Nat.le_refl _
    · rw[Yk h1 h2]
      show(A+1)*(if k=0 then l else f)≤_
      rw[if_neg (by omega)];exact b2 h2
def TreeV.sizeR (t:TreeV)(total leaf:Nat):Int:=if t.spotE total 0 leaf≠0 then 0 else qfj t total leaf ((t.rowsOf total).length - 1)
structure WayFacts (t:TreeV)(total leaf n:Nat):Prop where
  two:2≤n
  most:n≤255
  cells: ∀k,k<n→(qw t total leaf k).cellsL=[.int .i64 (k:Nat),.int .u64 (Qr t.fn (t.rowsOf total) leaf k:Nat),.int .u64 (qw t total leaf k).frm,.int .u64 (qw t total leaf k).to_,.bool (qw t total leaf k).last,.bool (decide (k=n - 1))]
  child: ∀k,k+1<n→((qw t total leaf (k+1)).frm:Int)≤(Qr t.fn (t.rowsOf total) leaf k:Int)∧(Qr t.fn (t.rowsOf total) leaf k:Int)≤18446744073709551615
  wide: ∀k,1≤k→k<n→((qw t total leaf k).frm:Int)+1≤((qw t total leaf k).to_:Int)∧((qw t total leaf k).to_:Int)≤18446744073709551615
  par: ∀k,k+1<n→t.parE total k (Qr t.fn (t.rowsOf total) leaf k)=0∧t.parV total k (Qr t.fn (t.rowsOf total) leaf k)=Qr t.fn (t.rowsOf total) leaf (k+1)
  spot: ∀k,k<n→t.spotE total k (Qr t.fn (t.rowsOf total) leaf k)=0∧(t.spotR total k (Qr t.fn (t.rowsOf total) leaf k)).val= .agg #[.int .i64 (k:Nat),.int .u64 (Qr t.fn (t.rowsOf total) leaf k:Nat),.int .u64 (qw t total leaf k).frm,.int .u64 (qw t total leaf k).to_,.bool (qw t total leaf k).last,.bool (decide (k=n - 1))]
  at_: ∀k,k<n→(Qr t.fn (t.rowsOf total) leaf k:Int)≤18446744073709551615
theorem Z9 {t:TreeV}(hl:0≤t.l∧t.l≤4294967295){total:Nat}(ht:(total:Int)≤18446744073709551615){leaf:Nat}(h:t.spotE total 0 leaf=0):WayFacts t total leaf (t.rowsOf total).length:=by
  have her:t.err total=0:=by
    by_cases h':t.err total=0
    · exact h'
    · unfold TreeV.spotE at h;rw[if_pos h']at h;exact absurd h h'
  have hleaf:leaf<nth (t.rowsOf total) 0:=by
    unfold TreeV.spotE at h;rw[if_neg (by simp[her])]at h;by_cases hth:t.there total 0 leaf
    · exact hth.2.2
    · rw[if_neg hth]at h;omega
  obtain⟨hl1,hl2,hln,h0⟩:=Qo hl her;have hvf:=qk h0;have hR:=qA her;have hm:=hR.most;have hpp:(t.pn:Int)≤255:=by unfold TreeV.pn;omega
  have hA: ∀k,k<(t.rowsOf total).length→(Qr t.fn (t.rowsOf total) leaf k:Int)≤18446744073709551615:=fun k hk=>by
    have:=yC hR hleaf k hk
    have:=YK hl1 ht hR k hk
    omega
  have hch: ∀k,k+1<(t.rowsOf total).length→(qw t total leaf (k+1)).frm≤Qr t.fn (t.rowsOf total) leaf k∧Qr t.fn (t.rowsOf total) leaf k<(qw t total leaf (k+1)).to_:=fun k hk=>
    (J1 (l:=t.ln) hR hk (yC hR hleaf k (by omega))).2
  refine⟨hR.len,by omega,fun k hk=>?_,fun k hk=>?_,fun k hk1 hk=>?_,fun k hk=>?_,fun k hk=>?_,hA⟩
  · obtain⟨-, -,r1,r2,r3, -⟩:=ZC her hleaf hk
    unfold SpotV.cellsL;rw[r1,r2,r3]
  · have:=(hch k hk).1
    have:=hA k (by omega)
    omega
  · obtain⟨j,rfl⟩: ∃j,k=j+1:=⟨k - 1,by omega⟩
    have h1:=hch j hk;have h2:(qw t total leaf (j+1)).to_≤nth (t.rowsOf total) j:=zd hl1 hR hk (by omega) (yC hR hleaf _ hk);have h3:=YK hl1 ht hR j (by omega);omega
  · obtain⟨s1,s2,r1,r2,r3,r4⟩:=ZC her hleaf (show k<(t.rowsOf total).length by omega)
    refine⟨?_,r4 (by omega)⟩;unfold TreeV.parE;rw[if_neg (by simp[s1]),s2,r3,if_neg (by simp;omega)]
  · obtain⟨s1,s2,r1,r2,r3, -⟩:=ZC her hleaf hk
    refine⟨s1,?_⟩;rw[s2,YC,r1,r2,r3]
theorem qda (t:TreeV)(hl:0≤t.l∧t.l≤4294967295)(total:Nat)(ht:(total:Int)≤18446744073709551615)(leaf:Nat)(w:World):
    Calls Tryz.prog 32 #[t.val,.int .u64 total,.int .u64 leaf] w fun e w'=>e= .returned (.tuple #[.int .u64 (t.sizeR total leaf),.int .i64 (t.spotE total 0 leaf)])∧Below w.heap.size w w':=by
  unfold TreeV.sizeR;by_cases he:t.spotE total 0 leaf=0
  · rw[if_neg (by simp[he]),he]
    have F:=Z9 hl ht he;refine qhU t total leaf F.two F.most (hid fun w=>qgv t total leaf F.two F.most (hid fun k hk w=>?_) (hid fun k hk w=>?_) (hid F.cells) (hid F.child) w) (hid F.wide) w
    · have:=YT t hl total ht (k:Nat) (Qr t.fn (t.rowsOf total) leaf k) w
      rw[(F.spot k hk).1,(F.spot k hk).2]at this;exact this
    · have:=qa5 t hl total ht (k:Nat) (Qr t.fn (t.rowsOf total) leaf k) (F.at_ k (by omega)) w
      rw[(F.par k hk).1,(F.par k hk).2]at this;exact this
  · rw[if_pos he]
    have A1:=YT t hl total ht 0 leaf;simp only[YC]at A1;exact qgF t total leaf (hid fun w=>qfg t total leaf (hid A1) (by rw[bne_iff_ne];exact he) w) w
end Go.Proofs.YtahenngmaoellaaGreat
