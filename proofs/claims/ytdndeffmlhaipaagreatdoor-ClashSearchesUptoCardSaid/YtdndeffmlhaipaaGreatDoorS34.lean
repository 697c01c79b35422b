/- The walk of shape.Spot. No condition. -/
import Derived.Test.YtdndeffmlhaipaaGreatDoorS33
import Derived.BigQuiet
import Derived.Deep.QuietTactic
import Derived.WalkMore
import Derived.Scope
import Derived.Sort.QuietIn
import Derived.BigRegionIn
import Derived.Test.YtdndeffmlhaipaaGreatDoorS05
import Derived.Deep.RegionHeld3
set_option linter.all false
set_option maxRecDepth 100000
set_option maxHeartbeats 8000000
namespace Go.Proofs.YtdndeffmlhaipaaGreatDoor
open Go.ChangeShapes Go.WideShapes Go.ChangeAt Go.RowKit Go.Joins Go.Shelf Go.Maps
open Go.Lib (hid)
attribute [local go_sem] Oper.semAt_some
theorem YI {W:World}{b:Nat}{a0 a1 a2 a3 a4 a5:Value}{T:TypeId}{fr:Nat×Nat}(h:W.heap[b]? =some (Obj.cells #[a0,a1,a2,a3,a4,a5] T fr))(v0 v1 v2 v3 v4 v5:Value):
    ((((((W.setCell ⟨b,0,none⟩ v0).setCell ⟨b,1,none⟩ v1).setCell ⟨b,2,none⟩ v2).setCell ⟨b,3,none⟩ v3).setCell ⟨b,4,none⟩ v4).setCell ⟨b,5,none⟩ v5).heap[b]? =some (Obj.cells #[v0,v1,v2,v3,v4,v5] T fr):=
  block_setCell (block_setCell (block_setCell (block_setCell (block_setCell (block_setCell h v0) v1) v2) v3) v4) v5
theorem YJ {B:Nat}{a W:World}(h:Below B a W){b:Nat}(hb:B≤b)(v0 v1 v2 v3 v4 v5:Value):
    Below B a ((((((W.setCell ⟨b,0,none⟩ v0).setCell ⟨b,1,none⟩ v1).setCell ⟨b,2,none⟩ v2).setCell ⟨b,3,none⟩ v3).setCell ⟨b,4,none⟩ v4).setCell ⟨b,5,none⟩ v5):=
  (((((h.setCell (p:=⟨b,0,none⟩) hb v0).setCell (p:=⟨b,1,none⟩) hb v1).setCell (p:=⟨b,2,none⟩) hb v2).setCell (p:=⟨b,3,none⟩) hb v3).setCell (p:=⟨b,4,none⟩) hb v4).setCell (p:=⟨b,5,none⟩) hb v5
theorem QD (w:World)(o:Obj){n:Nat}(hn:n=w.heap.size):(w.alloc o).heap[n]? =some o:=by subst hn;exact Wn w o
theorem yt {P:Program}{fn:Func}{tmps:Array Value}{W:World}{b:Nat}{v0 v1 v2 v3 v4 v5 e:Value}{T:TypeId}{fr:Nat×Nat}
    (hr:fn.results= #[.cell 8 118,.tmp 9]) (h8:tmps[8]?.getD undef= .pointer (some ⟨b,0,none⟩)) (h9:tmps[9]?.getD undef=e)
    (hb:W.heap[b]? =some (Obj.cells #[v0,v1,v2,v3,v4,v5] T fr)) (hP:P=Tryz.prog):
    (results fn tmps).run P W= .ok (.tuple #[.agg #[v0,v1,v2,v3,v4,v5],e]) W:=by
  subst hP;have c0:=qa hb 0;have c1:=qa hb 1;have c2:=qa hb 2;have c3:=qa hb 3;have c4:=qa hb 4;have c5:=qa hb 5;simp only[List.getElem?_toArray,List.getElem?_cons_zero,List.getElem?_cons_succ]at c0 c1 c2 c3 c4 c5;simp[results,hr,h8,h9,go_sem,c0,c1,c2,c3,c4,c5]
def TreeV.spotR (t:TreeV)(total:Nat)(row:Int)(at_:Nat):SpotV:=if t.err total=0∧t.there total row at_ then t.spot total row.toNat at_ else SpotV.zero
def TreeV.spotE (t:TreeV)(total:Nat)(row:Int)(at_:Nat):Int:=if t.err total≠0 then t.err total else if t.there total row at_ then 0 else 6
theorem qbU (t:TreeV)(hl:0≤t.l∧t.l≤4294967295)(total:Nat)(ht:(total:Int)≤18446744073709551615)(h:t.err total≠0)(row:Int)(at_:Nat)(w:World):
    Calls Tryz.prog 61 #[t.val,.int .u64 total,.int .i64 row,.int .u64 at_] w fun e w'=>e= .returned (.tuple #[SpotV.zero.val,.int .i64 (t.err total)])∧Below w.heap.size w w':=by
  have e1:(t.err total != 0)=true:=by rw[bne_iff_ne];exact h
  have H:=hid h;clear h;unfold TreeV.val;go_enter Tryz.func61,Tryz.ntmps61
  go_wp2_with fail
  refine(qbW t hl total ht H.out _).mono ?_;rintro e w1 ⟨rfl,hb1⟩;obtain⟨hc,hf⟩:=js hb1;have hs1:=hb1.size;simp at hs1
  have k0:w.heap.size<w1.heap.size:=by omega
  have k1:w.heap.size+1<w1.heap.size:=by omega
  have b1:w1.heap[w.heap.size+1]? =some (Obj.cells #[.int .i64 0,.int .u64 0,.int .u64 0,.int .u64 0,.bool false,.bool false] 118 (0,0)):=by
    rw[hb1.block _ (by simp)];exact QD _ _ (by simp)
  have B1:=hid b1;clear b1;go_wp2
  refine Bp (yt rfl rfl rfl (b:=w.heap.size+1) (T:=118) (fr:=(0,0)) (YI B1.out _ _ _ _ _ _) rfl) rfl ⟨rfl,YJ (qG _ (Below.trans (Br.alloc Nl _) (hb1.mono (by simp)))) (by omega) _ _ _ _ _ _⟩
theorem qbT {L:List Nat}(t:TreeV)(total:Nat)(hN0:1≤L.length)
    (HR:Hid (∀w,Calls Tryz.prog 64 #[t.val,.int .u64 total] w fun e w'=> ∃v,e= .returned (.tuple #[v,.int .i64 0])∧w'.ownsRow w.heap.size 54 1 v L.length (L.map qaw)∧Below w.heap.size w w'))
    (HLe:Hid (∀k,k<L.length→(nth L k:Int)≤18446744073709551615)) (row:Int) (at_:Nat) (HT:Hid (¬(0≤row∧row.toNat<L.length∧at_<nth L row.toNat))) (w:World):
    Calls Tryz.prog 61 #[t.val,.int .u64 total,.int .i64 row,.int .u64 at_] w fun e w'=>e= .returned (.tuple #[SpotV.zero.val,.int .i64 6])∧Below w.heap.size w w':=by
  unfold TreeV.val;go_enter Tryz.func61,Tryz.ntmps61
  go_wp2_with fail
  refine(HR.out _).mono ?_;rintro e w1 ⟨v,rfl,hown,hb1⟩;obtain⟨g,cap,rfl, -,hg1,hg2,hcell⟩:=Y4 hown hN0;clear hown;have HCL:=hid hcell;clear hcell;obtain⟨hc,hf⟩:=js hb1;have hs1:=hb1.size;simp at hs1
  have k0:w.heap.size<w1.heap.size:=by omega
  have k1:w.heap.size+1<w1.heap.size:=by omega
  have b1:w1.heap[w.heap.size+1]? =some (Obj.cells #[.int .i64 0,.int .u64 0,.int .u64 0,.int .u64 0,.bool false,.bool false] 118 (0,0)):=by
    rw[hb1.block _ (by simp)];exact QD _ _ (by simp)
  have B1:=hid b1;have hBW:Below w.heap.size w w1:=qG _ (Below.trans (Br.alloc Nl _) (hb1.mono (by simp)));clear b1 hb1;by_cases hA:row<0
  · go_wp2
    refine Bp (yt rfl rfl rfl (b:=w.heap.size+1) (T:=118) (fr:=(0,0)) (YI B1.out _ _ _ _ _ _) rfl) rfl ⟨rfl,YJ hBW (by omega) _ _ _ _ _ _⟩
  · by_cases hA2:(L.length:Int)≤row
    · go_wp2
      refine Bp (yt rfl rfl rfl (b:=w.heap.size+1) (T:=118) (fr:=(0,0)) (YI B1.out _ _ _ _ _ _) rfl) rfl ⟨rfl,YJ hBW (by omega) _ _ _ _ _ _⟩
    · obtain⟨k,rfl⟩: ∃k:Nat,row=k:=⟨row.toNat,by omega⟩
      have hx:=HCL.out k (by omega);have hx2:=HLe.out k (by omega);have q1:((nth L k:Int)≤(at_:Int)):=by
        have:=HT.out
        rw[Int.toNat_natCast]at this;omega
      go_wp2
      refine Bp (yt rfl rfl rfl (b:=w.heap.size+1) (T:=118) (fr:=(0,0)) (YI B1.out _ _ _ _ _ _) rfl) rfl ⟨rfl,YJ hBW (by omega) _ _ _ _ _ _⟩
def qbZ (f l:Int)(total k at_ n b:Nat)(root:Bool):Array Value:=
  if root=true then #[.int .i64 k,.int .u64 at_,.int .u64 0,.int .u64 b,.bool ((at_:Int)==(n:Int) - 1),.bool true]
  else if(at_:Int)=(n:Int) - 1 then #[.int .i64 k,.int .u64 at_,.int .u64 (IntKind.u64.wrap (at_*(if k=0 then l else f))),.int .u64 (if k=0 then total else b:Nat),.bool true,.bool false]
  else #[.int .i64 k,.int .u64 at_,.int .u64 (IntKind.u64.wrap (at_*(if k=0 then l else f))),.int .u64 (IntKind.u64.wrap (IntKind.u64.wrap (at_*(if k=0 then l else f))+(if k=0 then l else f))),.bool false,.bool false]
def ju (t:TreeV)(L:List Nat)(total k at_:Nat)(A:Array Value):Prop:=A=qbZ t.f t.l total k at_ (nth L k) (nth L (k - 1)) (decide (k=L.length - 1))
theorem zM {t:TreeV}{L:List Nat}{total k at_:Nat}{fn:Func}{tmps:Array Value}{w w1:World}{a0 a1 a2 a3 a4 a5 v0 v1 v2 v3 v4 v5:Value}{o:Obj}
    (hr:fn.results= #[.cell 8 118,.tmp 9]) (h8:tmps[8]?.getD undef= .pointer (some ⟨w.heap.size+1,0,none⟩)) (h9:tmps[9]?.getD undef= .int .i64 0)
    (hb:w1.heap[w.heap.size+1]? =some (Obj.cells #[a0,a1,a2,a3,a4,a5] 118 (0,0))) (hB:Below w.heap.size w w1) (k1:w.heap.size+1<w1.heap.size)
    (hA:ju t L total k at_ #[v0,v1,v2,v3,v4,v5]):
    bodyPost Tryz.prog fn (fun e w'=>(∃A,e=Ending.returned (.tuple #[.agg A,.int .i64 0])∧ju t L total k at_ A)∧Below w.heap.size w w') Exit.ret ⟨tmps,[]⟩
      (((((((w1.setCell ⟨w.heap.size+1,0,none⟩ v0).setCell ⟨w.heap.size+1,1,none⟩ v1).setCell ⟨w.heap.size+1,2,none⟩ v2).setCell ⟨w.heap.size+1,3,none⟩ v3).setCell ⟨w.heap.size+1,4,none⟩ v4).setCell ⟨w.heap.size+1,5,none⟩ v5).alloc o):=by
  refine Bp (yt hr h8 h9 (b:=w.heap.size+1) (T:=118) (fr:=(0,0)) ?_ rfl) rfl ⟨⟨_,rfl,hA⟩,(YJ hB (by omega) _ _ _ _ _ _).alloc (by simp;omega) _⟩;rw[Bh _ _ _ (by simp;omega)];exact YI hb _ _ _ _ _ _
theorem qbf {L:List Nat}(t:TreeV)(total:Nat)(hN0:1≤L.length)(hN2:2≤L.length)
    (HR:Hid (∀w,Calls Tryz.prog 64 #[t.val,.int .u64 total] w fun e w'=> ∃v,e= .returned (.tuple #[v,.int .i64 0])∧w'.ownsRow w.heap.size 54 1 v L.length (L.map qaw)∧Below w.heap.size w w'))
    (HLe:Hid (∀k,k<L.length→(nth L k:Int)≤18446744073709551615)) (hf0:0≤t.f) (hfb:t.f≤18446744073709551615) (hl0:0≤t.l) (hlb:t.l≤4294967295) (hN3:(L.length:Int)≤9223372036854775807)
    (k:Nat) (at_:Nat) (z1:k<L.length) (z2:at_<nth L k) (w:World):
    Calls Tryz.prog 61 #[t.val,.int .u64 total,.int .i64 k,.int .u64 at_] w fun e w'=>(∃A,e= .returned (.tuple #[.agg A,.int .i64 0])∧ju t L total k at_ A)∧Below w.heap.size w w':=by
  unfold TreeV.val;go_enter Tryz.func61,Tryz.ntmps61
  go_wp2_with fail
  refine(HR.out _).mono ?_;rintro e w1 ⟨v,rfl,hown,hb1⟩;obtain⟨g,cap,rfl, -,hg1,hg2,hcell⟩:=Y4 hown hN0;clear hown;have HCL:=hid hcell;clear hcell;obtain⟨hc,hf⟩:=js hb1;have hs1:=hb1.size;simp at hs1
  have k0:w.heap.size<w1.heap.size:=by omega
  have k1:w.heap.size+1<w1.heap.size:=by omega
  have b1:w1.heap[w.heap.size+1]? =some (Obj.cells #[.int .i64 0,.int .u64 0,.int .u64 0,.int .u64 0,.bool false,.bool false] 118 (0,0)):=by
    rw[hb1.block _ (by simp)];exact QD _ _ (by simp)
  have B1:=hid b1;have hBW:Below w.heap.size w w1:=qG _ (Below.trans (Br.alloc Nl _) (hb1.mono (by simp)));clear b1 hb1;have hx:=HCL.out k z1;have hx2:=HLe.out k z1;have q0:((L.length:Int)≤(k:Int))=False:=eq_false (by omega);have q1:((nth L k:Int)≤(at_:Int))=False:=eq_false (by omega);by_cases hR:k=L.length - 1
  · have q2:((k:Int)==(L.length:Int) - 1)=true:=by rw[beq_iff_eq];omega
    obtain⟨j,rfl⟩: ∃j,k=j+1:=⟨k - 1,by omega⟩;have hy:=HCL.out j (by omega);have hy2:=HLe.out j (by omega);have HR2:=hid hR;clear hR;go_wp2
    refine zM (t:=t) (L:=L) (total:=total) (k:=j+1) (at_:=at_) (fn:=Tryz.f61) ?_ ?_ ?_ B1.out hBW k1 ?_
    · rfl
    · rfl
    · rfl
    unfold ju qbZ;rw[if_pos (decide_eq_true HR2.out)];rfl
  · have q2:((k:Int)==(L.length:Int) - 1)=false:=by rw[beq_eq_false_iff_ne];omega
    have HR2:=hid hR;clear hR;by_cases hZ:(at_:Int)=(nth L k:Int) - 1
    · have q4:((at_:Int)==(nth L k:Int) - 1)=true:=by rw[beq_iff_eq];exact hZ
      have HZ:=hid hZ;clear hZ
      cases k with
      | zero=>
        have hnil:(L=[])=False:=eq_false (by intro h;rw[h]at hN0;simp at hN0);go_wp2
        refine zM (t:=t) (L:=L) (total:=total) (k:=0) (at_:=at_) (fn:=Tryz.f61) ?_ ?_ ?_ B1.out hBW k1 ?_
        · rfl
        · rfl
        · rfl
        unfold ju qbZ;rw[if_neg (by simp;exact HR2.out),if_pos HZ.out];simp
      | succ j=>
        have hy:=HCL.out j (by omega);have hy2:=HLe.out j (by omega);go_wp2
        refine zM (t:=t) (L:=L) (total:=total) (k:=j+1) (at_:=at_) (fn:=Tryz.f61) ?_ ?_ ?_ B1.out hBW k1 ?_
        · rfl
        · rfl
        · rfl
        unfold ju qbZ;rw[if_neg (by simp;exact HR2.out),if_pos HZ.out];simp
    · have q4:((at_:Int)==(nth L k:Int) - 1)=false:=by rw[beq_eq_false_iff_ne];exact hZ
      have HZ:=hid hZ;clear hZ
      cases k with
      | zero=>
        have hnil:(L=[])=False:=eq_false (by intro h;rw[h]at hN0;simp at hN0);go_wp2
        refine zM (t:=t) (L:=L) (total:=total) (k:=0) (at_:=at_) (fn:=Tryz.f61) ?_ ?_ ?_ B1.out hBW k1 ?_
        · rfl
        · rfl
        · rfl
        unfold ju qbZ;rw[if_neg (by simp;exact HR2.out),if_neg HZ.out];simp
      | succ j=>
        have hy:=HCL.out j (by omega);have hy2:=HLe.out j (by omega);go_wp2
        refine zM (t:=t) (L:=L) (total:=total) (k:=j+1) (at_:=at_) (fn:=Tryz.f61) ?_ ?_ ?_ B1.out hBW k1 ?_
        · rfl
        · rfl
        · rfl
        unfold ju qbZ;rw[if_neg (by simp;exact HR2.out),if_neg HZ.out];simp
end Go.Proofs.YtdndeffmlhaipaaGreatDoor
namespace Go.Proofs.YtdndeffmlhaipaaGreatDoor
open Go.ChangeShapes Go.WideShapes Go.ChangeAt Go.RowKit Go.Joins Go.Shelf Go.Maps
open Go.Lib (hid)
theorem qeX {t:TreeV}{p total:Nat}{L:List Nat}(hfe:t.f=(t.fn:Int))(hle:t.l=(t.ln:Int))(hl:1≤t.ln)(ht:(total:Int)≤18446744073709551615)(h:RowsIs t.fn p (lvs total t.ln) L){row at_:Nat}(hr:row<L.length)(ha:at_<nth L row):
    qbZ t.f t.l total row at_ (nth L row) (nth L (row - 1)) (decide (row=L.length - 1))=(JB t.fn t.ln total L row at_).val.cells:=by
  have hla:((at_:Int)==(nth L row:Int) - 1)=decide (at_=nth L row - 1):=by
    rw[Bool.eq_iff_iff,beq_iff_eq,decide_eq_true_iff];omega
  rw[hfe,hle];generalize t.fn=f at*;generalize t.ln=l at*;unfold qbZ JB;by_cases hn:1≤row∧nth L row=1
  · rw[if_pos (decide_eq_true ((h.root_iff hr).1 hn)),if_pos hn,hla];rfl
  · have hn': ¬row=L.length - 1:=fun e=>hn ((h.root_iff hr).2 e)
    obtain⟨b1,b2, -⟩:=qbO hl h hr ha hn;have hto:((if row=0 then total else nth L (row - 1):Nat):Int)≤18446744073709551615:=by
      by_cases h0:row=0
      · rw[if_pos h0];exact ht
      · rw[if_neg h0];exact qa9 hl ht h _ (by omega)
    have e0:(if row=0 then(l:Int) else(f:Int))=((if row=0 then l else f:Nat):Int):=by split<;>rfl
    have w1:IntKind.u64.wrap ((at_:Int)*((if row=0 then l else f:Nat):Int))=((at_*(if row=0 then l else f):Nat):Int):=by
      rw[wrap_u64,←Int.natCast_mul];omega
    rw[e0,if_neg (by simp;exact hn'),if_neg hn,w1];by_cases hz:at_=nth L row - 1
    · rw[if_pos (show(at_:Int)=(nth L row:Int) - 1 by omega),if_pos hz];rfl
    · have b2':=b2 hz
      have w2:IntKind.u64.wrap (((at_*(if row=0 then l else f):Nat):Int)+((if row=0 then l else f:Nat):Int))=(((at_+1)*(if row=0 then l else f):Nat):Int):=by
        rw[Nat.add_mul,Nat.one_mul]at b2'⊢;rw[wrap_u64,←Int.natCast_add];omega
      rw[if_neg (show ¬(at_:Int)=(nth L row:Int) - 1 by omega),if_neg hz,w2];rfl
theorem zO (t:TreeV)(hl:0≤t.l∧t.l≤4294967295)(total:Nat)(ht:(total:Int)≤18446744073709551615)(row:Int)(at_:Nat)(w:World):
    Calls Tryz.prog 61 #[t.val,.int .u64 total,.int .i64 row,.int .u64 at_] w fun e w'=>e= .returned (.tuple #[(t.spotR total row at_).val,.int .i64 (t.spotE total row at_)])∧Below w.heap.size w w':=by
  by_cases he:t.err total=0
  · obtain⟨hl1,hl2,hln,h0⟩:=yl hl he
    have hvf:=qq h0;have hfn:t.f=(t.fn:Int):=by unfold TreeV.fn;omega
    have hR:=QZ he;have hrl:=qa9 hl1 ht hR;have hrc:=hR.len;have hp:(t.pn:Int)≤255:=by unfold TreeV.pn;omega
    have hrm:=hR.most;have HR:=hid (fun w=>JF t hl total ht he w);by_cases hth:t.there total row at_
    · unfold TreeV.spotR TreeV.spotE
      rw[if_pos ⟨he,hth⟩,if_neg (by simp[he]),if_pos hth];obtain⟨z0,z1,z2⟩:=hth;obtain⟨k,rfl⟩: ∃k:Nat,row=k:=⟨row.toNat,by omega⟩;rw[Int.toNat_natCast]at z1 z2⊢;refine(qbf (L:=t.rowsOf total) t total (by omega) (by omega) HR (hid hrl) (by omega) (by omega) (by omega) (by omega) (by omega) k at_ z1 z2 w).mono ?_;rintro e w' ⟨⟨A,rfl,hA⟩,hb⟩
      refine⟨?_,hb⟩;unfold ju at hA;rw[hA,qeX hfn hln hl1 ht hR z1 z2];rfl
    · unfold TreeV.spotR TreeV.spotE
      rw[if_neg (fun h=>hth h.2),if_neg (by simp[he]),if_neg hth];exact qbT (L:=t.rowsOf total) t total (by omega) HR (hid hrl) row at_ (hid hth) w
  · unfold TreeV.spotR TreeV.spotE
    rw[if_neg (fun h=>he h.1),if_pos he];exact qbU t hl total ht he row at_ w
end Go.Proofs.YtdndeffmlhaipaaGreatDoor
namespace Go.Proofs.YtdndeffmlhaipaaGreatDoor
open Go.ChangeShapes Go.WideShapes Go.ChangeAt Go.RowKit Go.Joins Go.Shelf Go.Maps
open Go.Lib (hid)
attribute [local go_sem] Oper.semAt_some
theorem qcr {W:World}{b:Nat}{a0 a1 a2 a3 a4 a5 a6 a7 a8 a9 a10:Value}{T:TypeId}{fr:Nat×Nat}(h:W.heap[b]? =some (Obj.cells #[a0,a1,a2,a3,a4,a5,a6,a7,a8,a9,a10] T fr))(v0 v1 v2 v3 v4 v5 v6 v7 v8 v9 v10:Value):
    (((((((((((W.setCell ⟨b,0,none⟩ v0).setCell ⟨b,1,none⟩ v1).setCell ⟨b,2,none⟩ v2).setCell ⟨b,3,none⟩ v3).setCell ⟨b,4,none⟩ v4).setCell ⟨b,5,none⟩ v5).setCell ⟨b,6,none⟩ v6).setCell ⟨b,7,none⟩ v7).setCell ⟨b,8,none⟩ v8).setCell ⟨b,9,none⟩ v9).setCell ⟨b,10,none⟩ v10).heap[b]? =some (Obj.cells #[v0,v1,v2,v3,v4,v5,v6,v7,v8,v9,v10] T fr):=by
  have h0:(W.setCell ⟨b,0,none⟩ v0).heap[b]? =some (Obj.cells #[v0,a1,a2,a3,a4,a5,a6,a7,a8,a9,a10] T fr):=block_setCell h v0;have h1:((W.setCell ⟨b,0,none⟩ v0).setCell ⟨b,1,none⟩ v1).heap[b]? =some (Obj.cells #[v0,v1,a2,a3,a4,a5,a6,a7,a8,a9,a10] T fr):=block_setCell h0 v1;have h2:(((W.setCell ⟨b,0,none⟩ v0).setCell ⟨b,1,none⟩ v1).setCell ⟨b,2,none⟩ v2).heap[b]? =some (Obj.cells #[v0,v1,v2,a3,a4,a5,a6,a7,a8,a9,a10] T fr):=block_setCell h1 v2;have h3:((((W.setCell ⟨b,0,none⟩ v0).setCell ⟨b,1,none⟩ v1).setCell ⟨b,2,none⟩ v2).setCell ⟨b,3,none⟩ v3).heap[b]? =some (Obj.cells #[v0,v1,v2,v3,a4,a5,a6,a7,a8,a9,a10] T fr):=block_setCell h2 v3;have h4:(((((W.setCell ⟨b,0,none⟩ v0).setCell ⟨b,1,none⟩ v1).setCell ⟨b,2,none⟩ v2).setCell ⟨b,3,none⟩ v3).setCell ⟨b,4,none⟩ v4).heap[b]? =some (Obj.cells #[v0,v1,v2,v3,v4,a5,a6,a7,a8,a9,a10] T fr):=block_setCell h3 v4;have h5:((((((W.setCell ⟨b,0,none⟩ v0).setCell ⟨b,1,none⟩ v1).setCell ⟨b,2,none⟩ v2).setCell ⟨b,3,none⟩ v3).setCell ⟨b,4,none⟩ v4).setCell ⟨b,5,none⟩ v5).heap[b]? =some (Obj.cells #[v0,v1,v2,v3,v4,v5,a6,a7,a8,a9,a10] T fr):=block_setCell h4 v5;have h6:(((((((W.setCell ⟨b,0,none⟩ v0).setCell ⟨b,1,none⟩ v1).setCell ⟨b,2,none⟩ v2).setCell ⟨b,3,none⟩ v3).setCell ⟨b,4,none⟩ v4).setCell ⟨b,5,none⟩ v5).setCell ⟨b,6,none⟩ v6).heap[b]? =some (Obj.cells #[v0,v1,v2,v3,v4,v5,v6,a7,a8,a9,a10] T fr):=block_setCell h5 v6;have h7:((((((((W.setCell ⟨b,0,none⟩ v0).setCell ⟨b,1,none⟩ v1).setCell ⟨b,2,none⟩ v2).setCell ⟨b,3,none⟩ v3).setCell ⟨b,4,none⟩ v4).setCell ⟨b,5,none⟩ v5).setCell ⟨b,6,none⟩ v6).setCell ⟨b,7,none⟩ v7).heap[b]? =some (Obj.cells #[v0,v1,v2,v3,v4,v5,v6,v7,a8,a9,a10] T fr):=block_setCell h6 v7;have h8:(((((((((W.setCell ⟨b,0,none⟩ v0).setCell ⟨b,1,none⟩ v1).setCell ⟨b,2,none⟩ v2).setCell ⟨b,3,none⟩ v3).setCell ⟨b,4,none⟩ v4).setCell ⟨b,5,none⟩ v5).setCell ⟨b,6,none⟩ v6).setCell ⟨b,7,none⟩ v7).setCell ⟨b,8,none⟩ v8).heap[b]? =some (Obj.cells #[v0,v1,v2,v3,v4,v5,v6,v7,v8,a9,a10] T fr):=block_setCell h7 v8;have h9:((((((((((W.setCell ⟨b,0,none⟩ v0).setCell ⟨b,1,none⟩ v1).setCell ⟨b,2,none⟩ v2).setCell ⟨b,3,none⟩ v3).setCell ⟨b,4,none⟩ v4).setCell ⟨b,5,none⟩ v5).setCell ⟨b,6,none⟩ v6).setCell ⟨b,7,none⟩ v7).setCell ⟨b,8,none⟩ v8).setCell ⟨b,9,none⟩ v9).heap[b]? =some (Obj.cells #[v0,v1,v2,v3,v4,v5,v6,v7,v8,v9,a10] T fr):=block_setCell h8 v9;have h10:(((((((((((W.setCell ⟨b,0,none⟩ v0).setCell ⟨b,1,none⟩ v1).setCell ⟨b,2,none⟩ v2).setCell ⟨b,3,none⟩ v3).setCell ⟨b,4,none⟩ v4).setCell ⟨b,5,none⟩ v5).setCell ⟨b,6,none⟩ v6).setCell ⟨b,7,none⟩ v7).setCell ⟨b,8,none⟩ v8).setCell ⟨b,9,none⟩ v9).setCell ⟨b,10,none⟩ v10).heap[b]? =some (Obj.cells #[v0,v1,v2,v3,v4,v5,v6,v7,v8,v9,v10] T fr):=block_setCell h9 v10;exact h10
theorem Jj {B:Nat}{a W:World}(h:Below B a W){b:Nat}(hb:B≤b)(v0 v1 v2 v3 v4 v5 v6 v7 v8 v9 v10:Value):
    Below B a (((((((((((W.setCell ⟨b,0,none⟩ v0).setCell ⟨b,1,none⟩ v1).setCell ⟨b,2,none⟩ v2).setCell ⟨b,3,none⟩ v3).setCell ⟨b,4,none⟩ v4).setCell ⟨b,5,none⟩ v5).setCell ⟨b,6,none⟩ v6).setCell ⟨b,7,none⟩ v7).setCell ⟨b,8,none⟩ v8).setCell ⟨b,9,none⟩ v9).setCell ⟨b,10,none⟩ v10):=
  (((((((((((h.setCell (p:=⟨b,0,none⟩) hb v0).setCell (p:=⟨b,1,none⟩) hb v1).setCell (p:=⟨b,2,none⟩) hb v2).setCell (p:=⟨b,3,none⟩) hb v3).setCell (p:=⟨b,4,none⟩) hb v4).setCell (p:=⟨b,5,none⟩) hb v5).setCell (p:=⟨b,6,none⟩) hb v6).setCell (p:=⟨b,7,none⟩) hb v7).setCell (p:=⟨b,8,none⟩) hb v8).setCell (p:=⟨b,9,none⟩) hb v9).setCell (p:=⟨b,10,none⟩) hb v10)
theorem JO {P:Program}{fn:Func}{tmps:Array Value}{W:World}{b:Nat}{v0 v1 v2 v3 v4 v5 v6 v7 v8 v9 v10 e:Value}{T:TypeId}{fr:Nat×Nat}
    (hr:fn.results= #[.cell 8 72,.tmp 9]) (h8:tmps[8]?.getD undef= .pointer (some ⟨b,0,none⟩)) (h9:tmps[9]?.getD undef=e)
    (hb:W.heap[b]? =some (Obj.cells #[v0,v1,v2,v3,v4,v5,v6,v7,v8,v9,v10] T fr)) (hP:P=Tryz.prog):
    (results fn tmps).run P W= .ok (.tuple #[.agg #[v0,v1,v2,v3,v4,v5,v6,v7,v8,v9,v10],e]) W:=by
  subst hP;have c0:=qa hb 0;have c1:=qa hb 1;have c2:=qa hb 2;have c3:=qa hb 3;have c4:=qa hb 4;have c5:=qa hb 5;have c6:=qa hb 6;have c7:=qa hb 7;have c8:=qa hb 8;have c9:=qa hb 9;have c10:=qa hb 10;simp only[List.getElem?_toArray,List.getElem?_cons_zero,List.getElem?_cons_succ]at c0 c1 c2 c3 c4 c5 c6 c7 c8 c9 c10;simp[results,hr,h8,h9,go_sem,c0,c1,c2,c3,c4,c5,c6,c7,c8,c9,c10]
theorem Jc {W:World}{b c:Nat}(h:c≠b)(v0 v1 v2 v3 v4 v5 v6 v7 v8 v9 v10:Value):(((((((((((W.setCell ⟨b,0,none⟩ v0).setCell ⟨b,1,none⟩ v1).setCell ⟨b,2,none⟩ v2).setCell ⟨b,3,none⟩ v3).setCell ⟨b,4,none⟩ v4).setCell ⟨b,5,none⟩ v5).setCell ⟨b,6,none⟩ v6).setCell ⟨b,7,none⟩ v7).setCell ⟨b,8,none⟩ v8).setCell ⟨b,9,none⟩ v9).setCell ⟨b,10,none⟩ v10).heap[c]? =W.heap[c]? :=
  (Below.heap_setCell _ _ _ _ h).trans ((Below.heap_setCell _ _ _ _ h).trans ((Below.heap_setCell _ _ _ _ h).trans ((Below.heap_setCell _ _ _ _ h).trans ((Below.heap_setCell _ _ _ _ h).trans ((Below.heap_setCell _ _ _ _ h).trans ((Below.heap_setCell _ _ _ _ h).trans ((Below.heap_setCell _ _ _ _ h).trans ((Below.heap_setCell _ _ _ _ h).trans ((Below.heap_setCell _ _ _ _ h).trans (Below.heap_setCell _ _ _ _ h))))))))))
theorem qbo {W W':World}{base:Nat}{e:TypeId}{size:Nat}{v:Value}{n:Nat}{xs:List Value}(h:W.ownsRow base e size v n xs)(hb: ∀g,base≤g→g<W.heap.size→W'.heap[g]? =W.heap[g]?):W'.ownsRow base e size v n xs:=by
  refine⟨h.1,?_⟩;rcases h.2 with h2|⟨g,cap,cur,h1,h2,h3,h4⟩
  · exact .inl h2
  · exact .inr ⟨g,cap,cur,h1,h2,(hb g h2 (Ai h3).1).trans h3,h4⟩
theorem SideIs.same {W W':World}{base:Nat}{zs:List Int}{v:Value}(h:SideIs base W zs v)(hb: ∀g,base≤g→g<W.heap.size→W'.heap[g]? =W.heap[g]?):SideIs base W' zs v:=by
  rcases h with h|⟨h1,h2⟩
  · exact .inl h
  · exact .inr ⟨h1,qbo h2 hb⟩
theorem qf7 {W:World}{b:Nat}{a0 a1 a2 a3 a4 a5 a6 a7 a8 a9 a10:Value}{T:TypeId}(h:W.heap[b]? =some (Obj.cells #[a0,a1,a2,a3,a4,a5,a6,a7,a8,a9,a10] T (0,0))):
    W.cell? ⟨b,0,none⟩=some a0∧W.cell? ⟨b,1,none⟩=some a1∧W.cell? ⟨b,2,none⟩=some a2∧W.cell? ⟨b,3,none⟩=some a3∧W.cell? ⟨b,4,none⟩=some a4∧W.cell? ⟨b,5,none⟩=some a5∧W.cell? ⟨b,6,none⟩=some a6∧W.cell? ⟨b,7,none⟩=some a7∧W.cell? ⟨b,8,none⟩=some a8∧W.cell? ⟨b,9,none⟩=some a9∧W.cell? ⟨b,10,none⟩=some a10∧ ∀i,W.frozen? ⟨b,i,none⟩=false:=by
  have c0:=qa h 0;have c1:=qa h 1;have c2:=qa h 2;have c3:=qa h 3;have c4:=qa h 4;have c5:=qa h 5;have c6:=qa h 6;have c7:=qa h 7;have c8:=qa h 8;have c9:=qa h 9;have c10:=qa h 10;simp only[List.getElem?_toArray,List.getElem?_cons_zero,List.getElem?_cons_succ]at c0 c1 c2 c3 c4 c5 c6 c7 c8 c9 c10;exact⟨c0,c1,c2,c3,c4,c5,c6,c7,c8,c9,c10,fun i=>by simp[World.frozen?,h]⟩
theorem SideIs.form {W:World}{base:Nat}{zs:List Int}{v:Value}(h:SideIs base W zs v): ∃a n c,v= .slice a n c:=by
  rcases h with⟨h, -⟩|⟨-,h2⟩
  · exact⟨_,_,_,h⟩
  · rcases ownsRow_forms h2 with⟨h, -⟩|⟨g,cap,h⟩
    · exact⟨_,_,_,h⟩
    · exact⟨_,_,_,h⟩
theorem SideIs.le {W:World}{base base':Nat}{zs:List Int}{v:Value}(h:SideIs base W zs v)(hb:base'≤base):SideIs base' W zs v:=by
  rcases h with h|⟨h1,h2⟩
  · exact .inl h
  · exact .inr ⟨h1,ownsRow_le h2 hb⟩
def qc7 (t:TreeV)(row:Int)(at_:Nat)(s p:Value):Value:= .agg #[.int .i64 t.d,.int .i64 t.kl,.int .i64 t.f,.int .i64 t.p,.int .u32 t.l,.int .u64 at_,.int .u32 0,.int .i64 row,.int .i64 t.i,s,p]
theorem qgt {W w1:World}{c b:Nat}(hlt:c<b)(h: ∀o,W.cell? ⟨c,o,none⟩=w1.cell? ⟨c,o,none⟩)(v0 v1 v2 v3 v4 v5 v6 v7 v8 v9 v10:Value)(o:Nat):(((((((((((W.setCell ⟨b,0,none⟩ v0).setCell ⟨b,1,none⟩ v1).setCell ⟨b,2,none⟩ v2).setCell ⟨b,3,none⟩ v3).setCell ⟨b,4,none⟩ v4).setCell ⟨b,5,none⟩ v5).setCell ⟨b,6,none⟩ v6).setCell ⟨b,7,none⟩ v7).setCell ⟨b,8,none⟩ v8).setCell ⟨b,9,none⟩ v9).setCell ⟨b,10,none⟩ v10).cell? ⟨c,o,none⟩=w1.cell? ⟨c,o,none⟩:=
  ((Jj (Below.refl b W) (Nat.le_refl b) v0 v1 v2 v3 v4 v5 v6 v7 v8 v9 v10).cell (p:=⟨c,o,none⟩) hlt).trans (h o)
theorem qbi (t:TreeV)(total:Nat)(row:Int)(at_:Nat){z0:Int}{z1 z2 z3:Int}{z4 z5:Bool}{sz pz:List Int}
    (H1:Hid (∀w,Calls Tryz.prog 61 #[t.val,.int .u64 total,.int .i64 row,.int .u64 at_] w fun r w'=>r= .returned (.tuple #[.agg #[.int .i64 z0,.int .u64 z1,.int .u64 z2,.int .u64 z3,.bool z4,.bool z5],.int .i64 0])∧Below w.heap.size w w')) (w:World)
    (hsz:Hid (Holds8 w (.slice t.sa t.sl t.sc) sz)) (hpz:Hid (Holds8 w (.slice t.pa t.pl t.pc) pz)) (hz1:Hid (∀z∈sz,0≤z∧z≤255)) (hz2:Hid (∀z∈pz,0≤z∧z≤255)) (hl1:Hid (sz.length≤65535)) (hl2:Hid (pz.length≤65535)):
    Calls Tryz.prog 79 #[t.val,.int .u64 total,.int .i64 row,.int .u64 at_] w fun r w'=> ∃s p,r= .returned (.tuple #[qc7 t row at_ s p,.int .i64 0])∧SideIs w.heap.size w' sz s∧SideIs w.heap.size w' pz p∧Below w.heap.size w w':=by
  unfold TreeV.val qc7 at*;go_enter Tryz.func79,Tryz.ntmps79
  go_wp2_with fail
  refine(H1.out _).mono ?_;rintro r w1 ⟨rfl,hb1⟩;obtain⟨hc,hf1⟩:=js hb1;have hs1:=hb1.size;simp at hs1
  have k0:w.heap.size<w1.heap.size:=by omega
  have k1:w.heap.size+1<w1.heap.size:=by omega
  have b1:w1.heap[w.heap.size+1]? =some (Obj.cells #[.int .i64 0,.int .i64 0,.int .i64 0,.int .i64 0,.int .u32 0,.int .u64 0,.int .u32 0,.int .i64 0,.int .i64 0,.slice none 0 0,.slice none 0 0] 72 (0,0)):=by
    rw[hb1.block _ (by simp)];exact QD _ _ (by simp)
  have B1:=hid b1;have hBW:Below w.heap.size w w1:=qG _ (Below.trans (Br.alloc Nl _) (hb1.mono (by simp)));clear b1;go_wp2_with fail
  go_region_held3 (fun w'=> ∀o,w'.cell? ⟨w.heap.size,o,none⟩=w1.cell? ⟨w.heap.size,o,none⟩) (first|with_reducible assumption|with_reducible exact qgt (Nat.lt_succ_self _) K3 _ _ _ _ _ _ _ _ _ _ _|(intro o;exact((Below.refl _ w1).alloc Nl _).drew.cell (p:=⟨w.heap.size,o,none⟩) k0)|(intro o;exact(Below.refl _ w1).drew.cell (p:=⟨w.heap.size,o,none⟩) k0)) (first
    | (go_at_call_of 98 (Value.slice t.sa t.sl t.sc);refine(qce sz _ _ ?_ hz1.out hl1.out).mono ?_;exact Qa hsz.out (hBW.trans (by first|exact((Below.refl _ w1).alloc Nl _).drew.mono (by omega)|exact(Below.refl _ w1).drew.mono (by omega)));rintro e w2 ⟨u,rfl,hu,hb2⟩;obtain⟨ua,un,uc,rfl⟩:=hu.form;have hB2:Below w1.heap.size w1 w2:=(by first|exact(((Below.refl _ w1).alloc Nl _).drew).trans (hb2.mono (by simp))|exact(Below.refl _ w1).drew.trans (hb2.mono (by simp)));have K2: ∀o,w2.cell? ⟨w.heap.size,o,none⟩=w1.cell? ⟨w.heap.size,o,none⟩:=fun o=>hB2.cell (p:=⟨w.heap.size,o,none⟩) k0;have hs2:=hB2.size;have hub:w1.heap.size≤w2.heap.size:=hs2)
    | (go_at_call_of 98 (Value.slice t.pa t.pl t.pc);refine(qce pz _ _ ?_ hz2.out hl2.out).mono ?_;exact Qa hpz.out (hBW.trans (hB2.mono (by omega)));rintro e w3 ⟨p,rfl,hp,hb3⟩;obtain⟨pa,pn,pc,rfl⟩:=hp.form;have hB3:Below w1.heap.size w1 w3:=hB2.trans (hb3.mono hs2);have B3:=(hB3.block _ k1).trans B1.out;obtain⟨x0,x1,x2,x3,x4,x5,x6,x7,x8,x9,x10,xf⟩:=qf7 B3;have B3:=hid B3;have K3: ∀o,w3.cell? ⟨w.heap.size,o,none⟩=w1.cell? ⟨w.heap.size,o,none⟩:=fun o=>hB3.cell (p:=⟨w.heap.size,o,none⟩) k0;have hs3:=hB3.size;clear hf1))
  go_wp2
  have hu1:=hu.le (base':=w1.heap.size) (by first|(show w1.heap.size≤(w1.alloc _).heap.size;simp)|exact Nat.le_refl _);have hp1:=hp.le (base':=w1.heap.size) hub;refine Bp (JO rfl rfl rfl (b:=w.heap.size+1) (T:=72) (fr:=(0,0)) (qcr B3.out _ _ _ _ _ _ _ _ _ _ _) rfl) rfl ⟨_,_,rfl,(hu1.same fun g g1 g2=>?_).le (by omega),(hp1.same fun g g1 g2=>?_).le (by omega),Jj (hBW.trans (hB3.mono (by omega))) (by omega) _ _ _ _ _ _ _ _ _ _ _⟩
  · exact(Jc (by omega) _ _ _ _ _ _ _ _ _ _ _).trans (hb3.block g g2)
  · exact Jc (by omega) _ _ _ _ _ _ _ _ _ _ _
end Go.Proofs.YtdndeffmlhaipaaGreatDoor
