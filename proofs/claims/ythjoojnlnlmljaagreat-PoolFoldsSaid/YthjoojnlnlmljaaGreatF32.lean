/- The state at first, by the reference. No condition. -/
import Derived.Test.YthjoojnlnlmljaaGreatF31
import Derived.Test.YthjoojnlnlmljaaGreatF16
import Derived.Test.YthjoojnlnlmljaaGreatF22
import Derived.Test.YthjoojnlnlmljaaGreatF24
import Derived.Laws.CopyOwn
import Derived.Test.YthjoojnlnlmljaaGreatF29
set_option linter.all false
set_option maxRecDepth 100000
set_option maxHeartbeats 8000000
namespace Go.Proofs.YthjoojnlnlmljaaGreat
open Go.ChangeShapes Go.WideShapes Go.ChangeAt Go.RowKit Go.Joins Go.Shelf Go.Maps
open Go.Lib (hid)
attribute [local go_sem] Oper.semAt_some
def rN (kd:Int)(v:Nat→Nat)(sa pe kv:Value)(la:Bool)(mv:Value)(cnt:Int):Array Value:= #[.int .i64 kd,.int .i64 (v 1:Nat),.int .i64 (v 2:Nat),.int .i64 (v 3:Nat),.int .i64 (v 4:Nat),.int .u32 (v 5:Nat),.int .u64 (v 6:Nat),.int .u32 (v 7:Nat),.int .i64 (v 8:Nat),.int .i64 (v 9:Nat),sa,pe,kv,.bool la,.int .u64 0,.int .u64 0,.int .u64 0,.int .u64 0,.int .u64 0,.int .u64 0,.int .u64 0,.int .u64 0,.int .u64 0,.int .u64 0,.int .u64 0,.int .u64 0,.int .u64 0,.int .u64 0,.int .u64 0,.int .u64 0,.bool false,.int .u64 0,.int .u64 0,mv,.int .u64 cnt]
def yO (big:Bool)(w:World)(np:Nat)(v:Nat→Nat)(sa pe kv:Value)(la:Bool)(mv:Value)(cnt:Int):Prop:=w.heap[np]? =some (.cells (rN (kB big) v sa pe kv la mv cnt) 254 (0,0))
def qf1 (v:Nat→Nat)(sa pe:Value):Array Value:= #[.int .i64 (v 1:Nat),.int .i64 (v 2:Nat),.int .i64 (v 3:Nat),.int .i64 (v 4:Nat),.int .u32 (v 5:Nat),.int .u64 (v 6:Nat),.int .u32 (v 7:Nat),.int .i64 (v 8:Nat),.int .i64 (v 9:Nat),sa,pe]
theorem qgK (I:Int)(v:Nat→Nat)(o q O:Value)(J:Bool)(S:Value)(D:Int): ∀j,j<(qf1 v o q).size→(rN I v o q O J S D)[1+j]? =(qf1 v o q)[j]? :=by
 intro j G;have G:j<11:=G;rcases(show j=0∨j=1∨j=2∨j=3∨j=4∨j=5∨j=6∨j=7∨j=8∨j=9∨j=10 by omega)with rfl|rfl|rfl|rfl|rfl|rfl|rfl|rfl|rfl|rfl|rfl<;>rfl
theorem Zy {b zs:List Int}{p:Nat}(o: ∀z∈b,0≤z∧z≤255)(q: ∀z∈zs,0≤z∧z≤255): ∀z∈Qb b p zs,0≤z∧z≤255:=by
 intro z h;unfold Qb at h;rcases List.mem_append.1 h with h|h
 ·rcases List.mem_append.1 h with h|h
  ·exact o z (List.mem_of_mem_take h)
  ·exact q z h
 ·exact o z (List.mem_of_mem_drop h)
theorem ZN (big o:Bool)(v:Nat→Nat): ∀k,∀z∈Qt big o v k,0≤z∧z≤255
 | 0,z,h=>by rw[List.eq_of_mem_replicate h];omega
 | k+1,z,h=>by
  rw[Qt]at h;split at h
  ·exact ZN big o v k z h
  ·exact Zy (ZN big o v k) (jy _ _) z h
theorem zz {big:Bool}{v:Nat→Nat}{z1 z2:List Int}(q: ∀z∈z1,0≤z∧z≤255)(o: ∀z∈z2,0≤z∧z≤255): ∀z∈QI big v z1 z2,0≤z∧z≤255:=
 Zy (Zy (ZN _ _ _ _) q) o
theorem qbv (v:Nat→Nat)(z1 z2:List Int)(sa pe kv mv:Value)(la:Bool)(ak:Int)(J:Nat)(w:World)(hN:yO true w J v sa pe kv la mv ak)(hP:ParOk true v)(h1:Hold w sa z1)(h2:Hold w pe z2)(aL:z1.length≤16)(aM:z2.length≤16):
  Calls Tryz.prog 191 #[.pointer (some ⟨J,0,none⟩)] w fun e w'=>e= .returned (.agg (qg .u64 (qH (h0Z true (QI true v z1 z2)))))∧Below w.heap.size w w':=by
 obtain⟨q,aa⟩:=Ex w.heap.size;have a6:J<q:=by rw[←aa];exact(Ai hN).1
 have aD:=fun(W:World) (I:Below q w W)=>ZC v z1 z2 sa pe W hP (h1.below (aa▸I)) (h2.below (aa▸I)) aL aM
 have aH: ∀z∈QI true v z1 z2,0≤z∧z≤255:=zz h1.1 h2.1;have aA:=yc (big:=true) (v:=v) aL aM;generalize QI true v z1 z2=U at*;obtain⟨H,ah⟩:=Ex (h0Z true U);have ax:Words 64 8 H:=by rw[←ah];exact QK true U
 have aK:yh .u64 IVb 8 U=H:=by rw[←ah];rfl
 rw[ah];have af:w.heap[J]? =some (.cells (rN 1 v sa pe kv la mv ak) 254 (0,0)):=hN;have aU:=hid aD;have aQ:=hid aH;have aS:=hid aA;have aR:=hid aK;have O:=hid ax;have aI:=hid af;have bb:w.cell? ⟨J,30,none⟩=some (.bool false):=qa af 30;have an:w.cell? ⟨J,0,none⟩=some (.int .i64 1):=qa af 0;have ae:J<w.heap.size:=by omega
 clear hN af aD aH aA ah aK ax hP h1 h2;go_enter Tryz.func191,Tryz.ntmps191
 go_upto_region 4 with(fail)
 have aW:((w.alloc (.cells #[.int .u64 0,.int .u64 0,.int .u64 0,.int .u64 0,.int .u64 0,.int .u64 0,.int .u64 0,.int .u64 0,.int .u64 0,.int .u64 0,.int .u64 0,.int .u64 0,.int .u64 0,.int .u64 0,.int .u64 0,.int .u64 0] 252)).alloc (.cells #[.int .u64 0,.int .u64 0,.int .u64 0,.int .u64 0,.int .u64 0,.int .u64 0,.int .u64 0,.int .u64 0,.int .u64 0,.int .u64 0,.int .u64 0,.int .u64 0,.int .u64 0,.int .u64 0,.int .u64 0,.int .u64 0] 252)).heap.size=q+2:=by simp[aa]
 have r0:((w.alloc (.cells #[.int .u64 0,.int .u64 0,.int .u64 0,.int .u64 0,.int .u64 0,.int .u64 0,.int .u64 0,.int .u64 0,.int .u64 0,.int .u64 0,.int .u64 0,.int .u64 0,.int .u64 0,.int .u64 0,.int .u64 0,.int .u64 0] 252)).alloc (.cells #[.int .u64 0,.int .u64 0,.int .u64 0,.int .u64 0,.int .u64 0,.int .u64 0,.int .u64 0,.int .u64 0,.int .u64 0,.int .u64 0,.int .u64 0,.int .u64 0,.int .u64 0,.int .u64 0,.int .u64 0,.int .u64 0] 252)).heap[q]? =some (.cells #[.int .u64 0,.int .u64 0,.int .u64 0,.int .u64 0,.int .u64 0,.int .u64 0,.int .u64 0,.int .u64 0,.int .u64 0,.int .u64 0,.int .u64 0,.int .u64 0,.int .u64 0,.int .u64 0,.int .u64 0,.int .u64 0] 252 (0,0)):=by rw[Bh _ _ _ (by simp[aa]),←aa];exact Wn _ _
 have r1:((w.alloc (.cells #[.int .u64 0,.int .u64 0,.int .u64 0,.int .u64 0,.int .u64 0,.int .u64 0,.int .u64 0,.int .u64 0,.int .u64 0,.int .u64 0,.int .u64 0,.int .u64 0,.int .u64 0,.int .u64 0,.int .u64 0,.int .u64 0] 252)).alloc (.cells #[.int .u64 0,.int .u64 0,.int .u64 0,.int .u64 0,.int .u64 0,.int .u64 0,.int .u64 0,.int .u64 0,.int .u64 0,.int .u64 0,.int .u64 0,.int .u64 0,.int .u64 0,.int .u64 0,.int .u64 0,.int .u64 0] 252)).heap[q+1]? =some (.cells (qg .u64 (Qp H (qH Z8) 0)) 252 (0,0)):=by rw[show q+1=(w.alloc (.cells #[.int .u64 0,.int .u64 0,.int .u64 0,.int .u64 0,.int .u64 0,.int .u64 0,.int .u64 0,.int .u64 0,.int .u64 0,.int .u64 0,.int .u64 0,.int .u64 0,.int .u64 0,.int .u64 0,.int .u64 0,.int .u64 0] 252)).heap.size by simp[aa]];exact Wn _ _
 have ai:Below q w ((w.alloc (.cells #[.int .u64 0,.int .u64 0,.int .u64 0,.int .u64 0,.int .u64 0,.int .u64 0,.int .u64 0,.int .u64 0,.int .u64 0,.int .u64 0,.int .u64 0,.int .u64 0,.int .u64 0,.int .u64 0,.int .u64 0,.int .u64 0] 252)).alloc (.cells #[.int .u64 0,.int .u64 0,.int .u64 0,.int .u64 0,.int .u64 0,.int .u64 0,.int .u64 0,.int .u64 0,.int .u64 0,.int .u64 0,.int .u64 0,.int .u64 0,.int .u64 0,.int .u64 0,.int .u64 0,.int .u64 0] 252)):=by rw[←aa];exact(Br.alloc Nl _).alloc (by simp) _
 generalize ((w.alloc (.cells #[.int .u64 0,.int .u64 0,.int .u64 0,.int .u64 0,.int .u64 0,.int .u64 0,.int .u64 0,.int .u64 0,.int .u64 0,.int .u64 0,.int .u64 0,.int .u64 0,.int .u64 0,.int .u64 0,.int .u64 0,.int .u64 0] 252)).alloc (.cells #[.int .u64 0,.int .u64 0,.int .u64 0,.int .u64 0,.int .u64 0,.int .u64 0,.int .u64 0,.int .u64 0,.int .u64 0,.int .u64 0,.int .u64 0,.int .u64 0,.int .u64 0,.int .u64 0,.int .u64 0,.int .u64 0] 252))=Y at*;have ar:Y.heap[J]? =some (.cells (rN 1 v sa pe kv la mv ak) 254 (0,0)):=(ai.block J a6).trans aI.out;have R0:=hid r0;have R1:=hid r1;have ao:=hid ai;have ag:=hid ar;clear r0 r1 ai ar bb an aI ae;refine qA (n:=14) (w0:=Y) (B:=Y.heap.size) [.v 21 (.pointer (some ⟨J,0,none⟩)),.v 22 (.pointer (some ⟨J,0,none⟩)),.v 23 (.pointer (some ⟨J,0,none⟩)),.v 24 (.int .i64 1),.v 25 (.pointer (some ⟨J,0,none⟩)),.v 26 (.pointer (some ⟨J,0,none⟩)),.v 27 (.pointer (some ⟨J,1,none⟩)),.v 28 (.agg (qf1 v sa pe)),.p 29 (fun u W=> ∃r,u= .tuple #[r,.int .i64 0]∧W.ownsRow Y.heap.size 5 1 r 64 (U.map qp)),.p 20 (fun u W=> ∃r,u= .tuple #[r,.int .i64 0]∧W.ownsRow Y.heap.size 5 1 r 64 (U.map qp)),.p 30 (fun u W=>W.ownsRow Y.heap.size 5 1 u 64 (U.map qp)),.v 31 (.int .i64 0),.p 4 (fun u W=>W.ownsRow Y.heap.size 5 1 u 64 (U.map qp)),.v 5 (.int .i64 0)] (by exact⟨(fun _ _ _ h I=>by obtain⟨r,e,h⟩:=h;exact⟨r,e,qi h (fun g _ hg=>I.block g hg)⟩),(fun _ _ _ h I=>by obtain⟨r,e,h⟩:=h;exact⟨r,e,qi h (fun g _ hg=>I.block g hg)⟩),(fun _ _ _ h I=>qi h (fun g _ hg=>I.block g hg)),(fun _ _ _ h I=>qi h (fun g _ hg=>I.block g hg)),trivial⟩) Br.drew Nl ?_ ?_
 ·repeat' (with_reducible first|exact qx|refine qt ?_ ?_)
  all_goals try
   intro A x W G S V o D K X;have a0:=G.2 0 (by decide);conv at a0=>rhs;whnf
   simp only[QJ,QS]at D;clear o G;go_simp
   exact X _ _ BR rfl
  ·intro A x W G S V o _ K X;have bj:=gv G o 2 23;clear o G;have g0:=qe ag.out S;have c0:W.cell? ⟨J,0,none⟩=some (.int .i64 1):=qa g0 0;go_simp
   exact X _ _ BR rfl
  ·intro A x W G S V o _ K X;have a7:=gv G o 6 27;clear o G;have g0:=qe ag.out S;refine qV 171 _ rfl J 1 a7 254 _ (qf1 v sa pe) (0,0) _ g0 Tryz.underlying171 rfl (by kernel_rfl) (qgK _ _ _ _ _ _ _ _) (X _ _ Br rfl)
  ·intro A x W G S V o _ K X;have bm:=gv G o 3 24;have bl:=gv G o 7 28;clear o G;go_simp
   refine(aU.out W (ao.out.trans (S.mono (by omega)))).mono ?_;rintro e w' ⟨⟨r,rfl,ho⟩,I⟩;exact X _ _ I ⟨r,rfl,ownsRow_le ho V⟩
  ·intro A x W G S V o _ K X;have aV:(fun u W=> ∃r,u= .tuple #[r,.int .i64 0]∧W.ownsRow Y.heap.size 5 1 r 64 (U.map qp)) (x 29) W:=o ⟨8,.data⟩ (by simp) rfl _ rfl;have a4:A.tmps.getD 29 undef=x 29:=G.1 29 (by decide);clear o G;go_simp
   exact X _ _ Br (a4▸aV)
  ·intro A x W G S V o _ K X;have aj:(fun u W=> ∃r,u= .tuple #[r,.int .i64 0]∧W.ownsRow Y.heap.size 5 1 r 64 (U.map qp)) (x 20) W:=o ⟨9,.data⟩ (by simp) rfl _ rfl;have am:A.tmps.getD 20 undef=x 20:=G.1 20 (by decide);clear o G;obtain⟨r,er,hr⟩:=aj;rw[er]at am;go_simp
   exact X _ _ Br hr
  ·intro A x W G S V o _ K X;have aj:(fun u W=> ∃r,u= .tuple #[r,.int .i64 0]∧W.ownsRow Y.heap.size 5 1 r 64 (U.map qp)) (x 20) W:=o ⟨9,.data⟩ (by simp) rfl _ rfl;have am:A.tmps.getD 20 undef=x 20:=G.1 20 (by decide);clear o G;obtain⟨r,er,hr⟩:=aj;rw[er]at am;go_simp
   exact X _ _ BR rfl
  ·intro A x W G S V o _ K X;have aZ:(fun u W=>W.ownsRow Y.heap.size 5 1 u 64 (U.map qp)) (x 30) W:=o ⟨10,.data⟩ (by simp) rfl _ rfl;have a8:A.tmps.getD 30 undef=x 30:=G.1 30 (by decide);clear o G;go_simp
   exact X _ _ Br (a8▸aZ)
 intro x W S V aP;obtain⟨aw,aB,av,e4, -⟩:=aP;change (fun u W=> ∃r,u= .tuple #[r,.int .i64 0]∧W.ownsRow Y.heap.size 5 1 r 64 (U.map qp)) (x 29) W at aw
 change (fun u W=> ∃r,u= .tuple #[r,.int .i64 0]∧W.ownsRow Y.heap.size 5 1 r 64 (U.map qp)) (x 20) W at aB
 change (fun u W=>W.ownsRow Y.heap.size 5 1 u 64 (U.map qp)) (x 30) W at av
 change (fun u W=>W.ownsRow Y.heap.size 5 1 u 64 (U.map qp)) (x 4) W at e4
 refine qs ?_;simp only[Qx,Act.put,Ls];have ay:=QR e4;have aF:Below q w W:=ao.out.trans (S.mono (by omega));have g0:=qe ag.out S;have r0:=qe R0.out S;have r1:=qe R1.out S;have an:W.cell? ⟨J,0,none⟩=some (.int .i64 1):=qa g0 0;have ae:J<W.heap.size:=(Ai g0).1;have a3:q+2≤W.heap.size:=by have:=S.size;omega
 have aO:=hid r0;have aJ:=hid r1;have aN:=hid aF;have au:=hid ay;clear aw aB av e4 ay aF g0 r0 r1 S V R0 R1 ao ag aW;go_wp2_with fail
 refine(qeq U _ _ au.out aQ.out aS.out).mono ?_;rintro e w1 ⟨rfl,ac⟩;rw[aR.out];have bc:=ac.size;have k0:=qe aO.out ac;have k1:=qe aJ.out ac;have aG:Below q w w1:=aN.out.trans (ac.mono (by omega));have K0:=hid k0;have K1:=hid k1;have aC:=hid aG;clear k0 k1 aG ac aO aJ aN au an ae;go_upto_region 7 with((with_reducible show wpList _ _ _ (Oper.mk none (Op.store 274 _ _) _ _ _ _::_) _ _);refine wpList_store_row rfl 274 _ _ rfl w1.heap.size (qg .u64 H) rfl rfl 274 _ (Wn _ _) (by rw[qd,O.out.1];kernel_rfl) (by rw[qd,O.out.1];rfl) qw ?_)
 refine qj ?_;intro W7 ad;obtain⟨bv,aq⟩:=Ex w1.heap.size;have m0:W7.heap[q]? =some (.cells #[.int .u64 0,.int .u64 0,.int .u64 0,.int .u64 0,.int .u64 0,.int .u64 0,.int .u64 0,.int .u64 0,.int .u64 0,.int .u64 0,.int .u64 0,.int .u64 0,.int .u64 0,.int .u64 0,.int .u64 0,.int .u64 0] 252 (0,0)):=by rw[ad];exact(setRow_other (w1.alloc _) _ _ _ (by omega)).trans ((Bh _ _ _ (by omega)).trans K0.out)
 have m1:W7.heap[q+1]? =some (.cells (qg .u64 (Qp H (qH Z8) 0)) 252 (0,0)):=by rw[ad];exact(setRow_other (w1.alloc _) _ _ _ (by omega)).trans ((Bh _ _ _ (by omega)).trans K1.out)
 have m2:W7.heap[bv]? =some (.cells (qg .u64 H) 274 (0,0)):=by rw[ad,←aq];exact setRow_heap _ _ _ _ _ _ (Wn _ _)
 have az:Below q w W7:=by rw[ad];exact below_setRow (aC.out.alloc (by omega) _) (by omega) _
 have bi:bv<W7.heap.size:=(Ai m2).1;have be:q+2≤bv:=by omega
 rw[aq];have M0:=hid m0;have M1:=hid m1;have M2:=hid m2;have ba:=hid az;clear ad aq m0 m1 m2 az K0 K1 aC bc a3;go_wp2_with fail
 go_loopw [8] (fun i wr=> ∃j:Nat,i= .int .i64 (j:Nat)∧j≤8∧wr.heap[q+1]? =some (.cells (qg .u64 (Qp H (qH Z8) j)) 252 (0,0))∧But (q+1) W7 wr) (fun i _=>8 - (intOf i).toNat)
 case atStart=>exact⟨0,rfl,by omega,M1.out,But.refl _ _⟩
 case round=>
  obtain⟨j,rfl,hj,Z,I⟩:=hrel;have aT:=hid Z;have HB:=hid I;have bf:bv<wr.heap.size:=by have:=I.size;omega
  have ap:(qH Z8).length=16:=rfl;by_cases aE:j<8
  case pos=>
   have c0:wr.cell? ⟨bv,j,none⟩=some (.int .u64 (wd H j)):=by rw[qa ((I.block bv (by omega) (by omega)).trans M2.out) j,yT (by rw[O.out.1];omega)]
   have aX:(Qp H (qH Z8) j).length=16:=by rw[yG (by rw[O.out.1];omega) (by omega),ap]
   have c1:wr.cell? ⟨q+1,j,none⟩=some (.int .u64 (wd (Qp H (qH Z8) j) j)):=by rw[qa Z j,yT (by omega)]
   have f1:=frozen_of_row wr (q+1) j _ _ Z;have al:=heap_setCell_same wr (q+1) j _ _ (.int .u64 (wd H j)) Z;rw[qY,YX (by rw[O.out.1];omega) (by omega)]at al;have a5:=yg O.out aE;have aY:=hid al;have bk:(j:Int)<8:=by omega
   generalize wd (Qp H (qH Z8) j) j=zo at c1;generalize wd H j=zj at*;obtain⟨bg,bh⟩:=a5;clear al aX Z I ap;go_wp2
   exact⟨⟨j+1,rfl,by omega,aY.out,HB.out.set _ _⟩,by simp[intOf];omega⟩
  obtain rfl:j=8:=by omega
  rw[Jg O.out.1 rfl]at Z;have n1:=(I.block q (by omega) (by omega)).trans M0.out;have a9:Below q w wr:=ba.out.trans (I.below (by omega) (by omega));have ab:=qX (by decide) O.out;have bd:q+1<wr.heap.size:=by omega
  clear I ap hj aE aT;go_wp2_with (first|((with_reducible show wpList _ _ _ (Oper.mk (some 51) _ _ _ _ _::_) _ _);refine wpList_load_row rfl 252 _ rfl (q+1) rfl _ _ _ _ Z Tryz.underlying252 rfl (by rw[qd,ab.1];kernel_rfl) ?_)|((with_reducible show wpList _ _ _ (Oper.mk none (Op.store 252 _ _) _ _ _ _::_) _ _);refine wpList_store_row rfl 252 _ _ rfl q (qg .u64 (qH H)) rfl rfl 252 _ n1 (by rw[qd,ab.1];kernel_rfl) (by rw[qd,ab.1];rfl) qw ?_))
  exact Bp (results_cell_row rfl _ _ q 252 _ _ _ rfl (setRow_heap _ _ _ _ _ _ n1) Tryz.underlying252 rfl (by rw[qd,ab.1];kernel_rfl)) rfl ⟨rfl,by rw[aa];exact below_setRow a9 Nl _⟩
theorem qaP (v:Nat→Nat)(z1 z2:List Int)(sa pe kv mv:Value)(la:Bool)(ak:Int)(J:Nat)(w:World)(hN:yO false w J v sa pe kv la mv ak)(hP:ParOk false v)(h1:Hold w sa z1)(h2:Hold w pe z2)(aM:z1.length≤8)(aN:z2.length≤8):
  Calls Tryz.prog 191 #[.pointer (some ⟨J,0,none⟩)] w fun e w'=>e= .returned (.agg (qg .u64 (qH (h0Z false (QI false v z1 z2)))))∧Below w.heap.size w w':=by
 obtain⟨q,aa⟩:=Ex w.heap.size;have a6:J<q:=by rw[←aa];exact(Ai hN).1
 have aE:=fun(W:World) (I:Below q w W)=>Zk v z1 z2 sa pe W hP (h1.below (aa▸I)) (h2.below (aa▸I)) aM aN
 have aI: ∀z∈QI false v z1 z2,0≤z∧z≤255:=zz h1.1 h2.1;have aB:=yc (big:=false) (v:=v) aM aN;generalize QI false v z1 z2=U at*;obtain⟨H,ah⟩:=Ex (h0Z false U);have ay:Words 32 8 H:=by rw[←ah];exact QK false U
 have aL:yh .u32 IVs 4 U=H:=by rw[←ah];rfl
 rw[ah];have af:w.heap[J]? =some (.cells (rN 2 v sa pe kv la mv ak) 254 (0,0)):=hN;have aV:=hid aE;have aR:=hid aI;have aT:=hid aB;have aS:=hid aL;have O:=hid ay;have aJ:=hid af;have bb:w.cell? ⟨J,30,none⟩=some (.bool false):=qa af 30;have ao:w.cell? ⟨J,0,none⟩=some (.int .i64 2):=qa af 0;have ae:J<w.heap.size:=by omega
 clear hN af aE aI aB ah aL ay hP h1 h2;go_enter Tryz.func191,Tryz.ntmps191
 go_upto_region 4 with(fail)
 have aX:((w.alloc (.cells #[.int .u64 0,.int .u64 0,.int .u64 0,.int .u64 0,.int .u64 0,.int .u64 0,.int .u64 0,.int .u64 0,.int .u64 0,.int .u64 0,.int .u64 0,.int .u64 0,.int .u64 0,.int .u64 0,.int .u64 0,.int .u64 0] 252)).alloc (.cells #[.int .u64 0,.int .u64 0,.int .u64 0,.int .u64 0,.int .u64 0,.int .u64 0,.int .u64 0,.int .u64 0,.int .u64 0,.int .u64 0,.int .u64 0,.int .u64 0,.int .u64 0,.int .u64 0,.int .u64 0,.int .u64 0] 252)).heap.size=q+2:=by simp[aa]
 have r0:((w.alloc (.cells #[.int .u64 0,.int .u64 0,.int .u64 0,.int .u64 0,.int .u64 0,.int .u64 0,.int .u64 0,.int .u64 0,.int .u64 0,.int .u64 0,.int .u64 0,.int .u64 0,.int .u64 0,.int .u64 0,.int .u64 0,.int .u64 0] 252)).alloc (.cells #[.int .u64 0,.int .u64 0,.int .u64 0,.int .u64 0,.int .u64 0,.int .u64 0,.int .u64 0,.int .u64 0,.int .u64 0,.int .u64 0,.int .u64 0,.int .u64 0,.int .u64 0,.int .u64 0,.int .u64 0,.int .u64 0] 252)).heap[q]? =some (.cells #[.int .u64 0,.int .u64 0,.int .u64 0,.int .u64 0,.int .u64 0,.int .u64 0,.int .u64 0,.int .u64 0,.int .u64 0,.int .u64 0,.int .u64 0,.int .u64 0,.int .u64 0,.int .u64 0,.int .u64 0,.int .u64 0] 252 (0,0)):=by rw[Bh _ _ _ (by simp[aa]),←aa];exact Wn _ _
 have r1:((w.alloc (.cells #[.int .u64 0,.int .u64 0,.int .u64 0,.int .u64 0,.int .u64 0,.int .u64 0,.int .u64 0,.int .u64 0,.int .u64 0,.int .u64 0,.int .u64 0,.int .u64 0,.int .u64 0,.int .u64 0,.int .u64 0,.int .u64 0] 252)).alloc (.cells #[.int .u64 0,.int .u64 0,.int .u64 0,.int .u64 0,.int .u64 0,.int .u64 0,.int .u64 0,.int .u64 0,.int .u64 0,.int .u64 0,.int .u64 0,.int .u64 0,.int .u64 0,.int .u64 0,.int .u64 0,.int .u64 0] 252)).heap[q+1]? =some (.cells (qg .u64 (Qp H (qH Z8) 0)) 252 (0,0)):=by rw[show q+1=(w.alloc (.cells #[.int .u64 0,.int .u64 0,.int .u64 0,.int .u64 0,.int .u64 0,.int .u64 0,.int .u64 0,.int .u64 0,.int .u64 0,.int .u64 0,.int .u64 0,.int .u64 0,.int .u64 0,.int .u64 0,.int .u64 0,.int .u64 0] 252)).heap.size by simp[aa]];exact Wn _ _
 have ai:Below q w ((w.alloc (.cells #[.int .u64 0,.int .u64 0,.int .u64 0,.int .u64 0,.int .u64 0,.int .u64 0,.int .u64 0,.int .u64 0,.int .u64 0,.int .u64 0,.int .u64 0,.int .u64 0,.int .u64 0,.int .u64 0,.int .u64 0,.int .u64 0] 252)).alloc (.cells #[.int .u64 0,.int .u64 0,.int .u64 0,.int .u64 0,.int .u64 0,.int .u64 0,.int .u64 0,.int .u64 0,.int .u64 0,.int .u64 0,.int .u64 0,.int .u64 0,.int .u64 0,.int .u64 0,.int .u64 0,.int .u64 0] 252)):=by rw[←aa];exact(Br.alloc Nl _).alloc (by simp) _
 generalize ((w.alloc (.cells #[.int .u64 0,.int .u64 0,.int .u64 0,.int .u64 0,.int .u64 0,.int .u64 0,.int .u64 0,.int .u64 0,.int .u64 0,.int .u64 0,.int .u64 0,.int .u64 0,.int .u64 0,.int .u64 0,.int .u64 0,.int .u64 0] 252)).alloc (.cells #[.int .u64 0,.int .u64 0,.int .u64 0,.int .u64 0,.int .u64 0,.int .u64 0,.int .u64 0,.int .u64 0,.int .u64 0,.int .u64 0,.int .u64 0,.int .u64 0,.int .u64 0,.int .u64 0,.int .u64 0,.int .u64 0] 252))=Y at*;have au:Y.heap[J]? =some (.cells (rN 2 v sa pe kv la mv ak) 254 (0,0)):=(ai.block J a6).trans aJ.out;have R0:=hid r0;have R1:=hid r1;have ap:=hid ai;have ag:=hid au;clear r0 r1 ai au bb ao aJ ae;refine qA (n:=14) (w0:=Y) (B:=Y.heap.size) [.v 21 (.pointer (some ⟨J,0,none⟩)),.v 22 (.pointer (some ⟨J,0,none⟩)),.v 23 (.pointer (some ⟨J,0,none⟩)),.v 24 (.int .i64 2),.v 25 (.pointer (some ⟨J,0,none⟩)),.v 26 (.pointer (some ⟨J,0,none⟩)),.v 27 (.pointer (some ⟨J,1,none⟩)),.v 28 (.agg (qf1 v sa pe)),.p 29 (fun u W=> ∃r,u= .tuple #[r,.int .i64 0]∧W.ownsRow Y.heap.size 5 1 r 32 (U.map qp)),.p 20 (fun u W=> ∃r,u= .tuple #[r,.int .i64 0]∧W.ownsRow Y.heap.size 5 1 r 32 (U.map qp)),.p 30 (fun u W=>W.ownsRow Y.heap.size 5 1 u 32 (U.map qp)),.v 31 (.int .i64 0),.p 4 (fun u W=>W.ownsRow Y.heap.size 5 1 u 32 (U.map qp)),.v 5 (.int .i64 0)] (by exact⟨(fun _ _ _ h I=>by obtain⟨r,e,h⟩:=h;exact⟨r,e,qi h (fun g _ hg=>I.block g hg)⟩),(fun _ _ _ h I=>by obtain⟨r,e,h⟩:=h;exact⟨r,e,qi h (fun g _ hg=>I.block g hg)⟩),(fun _ _ _ h I=>qi h (fun g _ hg=>I.block g hg)),(fun _ _ _ h I=>qi h (fun g _ hg=>I.block g hg)),trivial⟩) Br.drew Nl ?_ ?_
 ·repeat' (with_reducible first|exact qx|refine qt ?_ ?_)
  all_goals try
   intro A x W G S V o D K X;have a0:=G.2 0 (by decide);conv at a0=>rhs;whnf
   simp only[QJ,QS]at D;clear o G;go_simp
   exact X _ _ BR rfl
  ·intro A x W G S V o _ K X;have bj:=gv G o 2 23;clear o G;have g0:=qe ag.out S;have c0:W.cell? ⟨J,0,none⟩=some (.int .i64 2):=qa g0 0;go_simp
   exact X _ _ BR rfl
  ·intro A x W G S V o _ K X;have a7:=gv G o 6 27;clear o G;have g0:=qe ag.out S;refine qV 171 _ rfl J 1 a7 254 _ (qf1 v sa pe) (0,0) _ g0 Tryz.underlying171 rfl (by kernel_rfl) (qgK _ _ _ _ _ _ _ _) (X _ _ Br rfl)
  ·intro A x W G S V o _ K X;have bn:=gv G o 3 24;have bl:=gv G o 7 28;clear o G;go_simp
   refine(aV.out W (ap.out.trans (S.mono (by omega)))).mono ?_;rintro e w' ⟨⟨r,rfl,ho⟩,I⟩;exact X _ _ I ⟨r,rfl,ownsRow_le ho V⟩
  ·intro A x W G S V o _ K X;have aW:(fun u W=> ∃r,u= .tuple #[r,.int .i64 0]∧W.ownsRow Y.heap.size 5 1 r 32 (U.map qp)) (x 29) W:=o ⟨8,.data⟩ (by simp) rfl _ rfl;have a5:A.tmps.getD 29 undef=x 29:=G.1 29 (by decide);clear o G;go_simp
   exact X _ _ Br (a5▸aW)
  ·intro A x W G S V o _ K X;have aj:(fun u W=> ∃r,u= .tuple #[r,.int .i64 0]∧W.ownsRow Y.heap.size 5 1 r 32 (U.map qp)) (x 20) W:=o ⟨9,.data⟩ (by simp) rfl _ rfl;have an:A.tmps.getD 20 undef=x 20:=G.1 20 (by decide);clear o G;obtain⟨r,er,hr⟩:=aj;rw[er]at an;go_simp
   exact X _ _ Br hr
  ·intro A x W G S V o _ K X;have aj:(fun u W=> ∃r,u= .tuple #[r,.int .i64 0]∧W.ownsRow Y.heap.size 5 1 r 32 (U.map qp)) (x 20) W:=o ⟨9,.data⟩ (by simp) rfl _ rfl;have an:A.tmps.getD 20 undef=x 20:=G.1 20 (by decide);clear o G;obtain⟨r,er,hr⟩:=aj;rw[er]at an;go_simp
   exact X _ _ BR rfl
  ·intro A x W G S V o _ K X;have a3:(fun u W=>W.ownsRow Y.heap.size 5 1 u 32 (U.map qp)) (x 30) W:=o ⟨10,.data⟩ (by simp) rfl _ rfl;have a8:A.tmps.getD 30 undef=x 30:=G.1 30 (by decide);clear o G;go_simp
   exact X _ _ Br (a8▸a3)
 intro x W S V aQ;obtain⟨ax,aC,aw,e4, -⟩:=aQ;change (fun u W=> ∃r,u= .tuple #[r,.int .i64 0]∧W.ownsRow Y.heap.size 5 1 r 32 (U.map qp)) (x 29) W at ax
 change (fun u W=> ∃r,u= .tuple #[r,.int .i64 0]∧W.ownsRow Y.heap.size 5 1 r 32 (U.map qp)) (x 20) W at aC
 change (fun u W=>W.ownsRow Y.heap.size 5 1 u 32 (U.map qp)) (x 30) W at aw
 change (fun u W=>W.ownsRow Y.heap.size 5 1 u 32 (U.map qp)) (x 4) W at e4
 refine qs ?_;simp only[Qx,Act.put,Ls];have az:=QR e4;have aG:Below q w W:=ap.out.trans (S.mono (by omega));have g0:=qe ag.out S;have r0:=qe R0.out S;have r1:=qe R1.out S;have ao:W.cell? ⟨J,0,none⟩=some (.int .i64 2):=qa g0 0;have ae:J<W.heap.size:=(Ai g0).1;have a4:q+2≤W.heap.size:=by have:=S.size;omega
 have aP:=hid r0;have aK:=hid r1;have aO:=hid aG;have av:=hid az;clear ax aC aw e4 az aG g0 r0 r1 S V R0 R1 ap ag aX;go_wp2_with fail
 refine(qer U _ _ av.out aR.out aT.out).mono ?_;rintro e w1 ⟨rfl,ac⟩;rw[aS.out];have bc:=ac.size;have k0:=qe aP.out ac;have k1:=qe aK.out ac;have aH:Below q w w1:=aO.out.trans (ac.mono (by omega));have K0:=hid k0;have K1:=hid k1;have aD:=hid aH;clear k0 k1 aH ac aP aK aO av ao ae;go_upto_region 13 with((with_reducible show wpList _ _ _ (Oper.mk none (Op.store 284 _ _) _ _ _ _::_) _ _);refine wpList_store_row rfl 284 _ _ rfl w1.heap.size (qg .u32 H) rfl rfl 284 _ (Wn _ _) (by rw[qd,O.out.1];kernel_rfl) (by rw[qd,O.out.1];rfl) qw ?_)
 refine qj ?_;intro W7 ad;obtain⟨bv,ar⟩:=Ex w1.heap.size;have m0:W7.heap[q]? =some (.cells #[.int .u64 0,.int .u64 0,.int .u64 0,.int .u64 0,.int .u64 0,.int .u64 0,.int .u64 0,.int .u64 0,.int .u64 0,.int .u64 0,.int .u64 0,.int .u64 0,.int .u64 0,.int .u64 0,.int .u64 0,.int .u64 0] 252 (0,0)):=by rw[ad];exact(setRow_other (w1.alloc _) _ _ _ (by omega)).trans ((Bh _ _ _ (by omega)).trans K0.out)
 have m1:W7.heap[q+1]? =some (.cells (qg .u64 (Qp H (qH Z8) 0)) 252 (0,0)):=by rw[ad];exact(setRow_other (w1.alloc _) _ _ _ (by omega)).trans ((Bh _ _ _ (by omega)).trans K1.out)
 have m2:W7.heap[bv]? =some (.cells (qg .u32 H) 284 (0,0)):=by rw[ad,←ar];exact setRow_heap _ _ _ _ _ _ (Wn _ _)
 have aA:Below q w W7:=by rw[ad];exact below_setRow (aD.out.alloc (by omega) _) (by omega) _
 have bi:bv<W7.heap.size:=(Ai m2).1;have be:q+2≤bv:=by omega
 rw[ar];have M0:=hid m0;have M1:=hid m1;have M2:=hid m2;have ba:=hid aA;clear ad ar m0 m1 m2 aA K0 K1 aD bc a4;go_wp2_with fail
 go_loopw [11] (fun i wr=> ∃j:Nat,i= .int .i64 (j:Nat)∧j≤8∧wr.heap[q+1]? =some (.cells (qg .u64 (Qp H (qH Z8) j)) 252 (0,0))∧But (q+1) W7 wr) (fun i _=>8 - (intOf i).toNat)
 case atStart=>exact⟨0,rfl,by omega,M1.out,But.refl _ _⟩
 case round=>
  obtain⟨j,rfl,hj,Z,I⟩:=hrel;have aU:=hid Z;have HB:=hid I;have bf:bv<wr.heap.size:=by have:=I.size;omega
  have aq:(qH Z8).length=16:=rfl;by_cases aF:j<8
  case pos=>
   have c0:wr.cell? ⟨bv,j,none⟩=some (.int .u32 (wd H j)):=by rw[qa ((I.block bv (by omega) (by omega)).trans M2.out) j,yT (by rw[O.out.1];omega)]
   have aY:(Qp H (qH Z8) j).length=16:=by rw[yG (by rw[O.out.1];omega) (by omega),aq]
   have c1:wr.cell? ⟨q+1,j,none⟩=some (.int .u64 (wd (Qp H (qH Z8) j) j)):=by rw[qa Z j,yT (by omega)]
   have f1:=frozen_of_row wr (q+1) j _ _ Z;have al:=heap_setCell_same wr (q+1) j _ _ (.int .u64 (wd H j)) Z;rw[qY,YX (by rw[O.out.1];omega) (by omega)]at al;have am:=yg O.out aF;have bm:IntKind.u64.wrap (wd H j)=wd H j:=u64_wrap_id _ am.1 (by have:=am.2;simp at this;omega);have aZ:=hid al;have bk:(j:Int)<8:=by omega
   generalize wd (Qp H (qH Z8) j) j=zo at c1;generalize wd H j=zj at*;obtain⟨bg,bh⟩:=am;clear al aY Z I aq;go_wp2
   exact⟨⟨j+1,rfl,by omega,aZ.out,HB.out.set _ _⟩,by simp[intOf];omega⟩
  obtain rfl:j=8:=by omega
  rw[Jg O.out.1 rfl]at Z;have n1:=(I.block q (by omega) (by omega)).trans M0.out;have a9:Below q w wr:=ba.out.trans (I.below (by omega) (by omega));have ab:=qX (by decide) O.out;have bd:q+1<wr.heap.size:=by omega
  clear I aq hj aF aU;go_wp2_with (first|((with_reducible show wpList _ _ _ (Oper.mk (some 67) _ _ _ _ _::_) _ _);refine wpList_load_row rfl 252 _ rfl (q+1) rfl _ _ _ _ Z Tryz.underlying252 rfl (by rw[qd,ab.1];kernel_rfl) ?_)|((with_reducible show wpList _ _ _ (Oper.mk none (Op.store 252 _ _) _ _ _ _::_) _ _);refine wpList_store_row rfl 252 _ _ rfl q (qg .u64 (qH H)) rfl rfl 252 _ n1 (by rw[qd,ab.1];kernel_rfl) (by rw[qd,ab.1];rfl) qw ?_))
  exact Bp (results_cell_row rfl _ _ q 252 _ _ _ rfl (setRow_heap _ _ _ _ _ _ n1) Tryz.underlying252 rfl (by rw[qd,ab.1];kernel_rfl)) rfl ⟨rfl,by rw[aa];exact below_setRow a9 Nl _⟩
structure TreeOk (t:TreeV)(kz z1 z2:List Int)(w:World):Prop where
 v:t.validE=0
 l:0≤t.l∧t.l≤4294967295
 k:Hold w (.slice t.ka t.kl t.kc) kz
 s:Hold w (.slice t.sa t.sl t.sc) z1
 p:Hold w (.slice t.pa t.pl t.pc) z2
theorem TreeOk.below {t:TreeV}{kz z1 z2:List Int}{w w':World}(h:TreeOk t kz z1 z2 w)(o:Below w.heap.size w w'):TreeOk t kz z1 z2 w':=⟨h.v,h.l,h.k.below o,h.s.below o,h.p.below o⟩
theorem Yp {w:World}{a:Option Addr}{n c:Nat}{zs:List Int}(h:Hold w (.slice a n c) zs):zs.length=n:=by
 obtain⟨o,q,e, -, -⟩:=h.slice;simp only[Value.slice.injEq]at e;exact e.2.1.symm
def TreeV.node (t:TreeV)(kz z1 z2:List Int)(row i:Nat)(la rt:Bool)(d:List Int):List Int:=qbb t.big (t.blk z1 z2 row i) (Jb row kz) la (t.outN rt) d
theorem zC (t:TreeV)(kz z1 z2:List Int)(row i:Nat)(o D:Bool)(d:List Int): ∀a∈t.node kz z1 z2 row i o D d,0≤a∧a≤255:=fun a q=>qdv _ _ _ _ a (List.mem_of_mem_take q)
theorem qcF (big:Bool)(q kz ds:List Int)(G:Bool)(o:Int)(O I J:Value)(w:World)(Z:Hold w O q)(V:Hold w I kz)(Y:Hold w J ds)(S:(ds.length:Int)≤140737488355200)(U:okD big false q)(D:yX q kz=false)(X:1≤o∧o≤(mB big:Nat)):
  Calls Tryz.prog 60 #[.agg (ZQ (kB big) O I G o J)] w fun e w'=>qbj big q kz G o ds w e w':=by
 cases big
 ·exact qe6 q kz ds G o O I J w Z V Y S U D X
 ·exact qgn q kz ds G o O I J w Z V Y S U D X
theorem TreeOk.okD {t:TreeV}{kz z1 z2:List Int}{w:World}(h:TreeOk t kz z1 z2 w){row at_:Nat}(O:row≤255)(G:at_<281474976710656):
  Go.Proofs.YthjoojnlnlmljaaGreat.okD t.big false (t.blk z1 z2 row at_)∧yX (t.blk z1 z2 row at_) (Jb row kz)=false∧(∀z∈t.blk z1 z2 row at_,0≤z∧z≤255)∧ ∀o:Bool,1≤t.outN o∧t.outN o≤(mB t.big:Nat):=by
 have q:=qq h.v;have S:=yH h.v;have Z:=Yp h.s;have V:=Yp h.p;have Y:=Yp h.k;obtain⟨I,D⟩:=qfm (z1:=z1) (z2:=z2) (qae h.v h.l O G) (by omega) (by omega);refine⟨I,?_,zz h.s.1 h.p.1,fun o=>?_⟩
 ·have J:qn (t.blk z1 z2 row at_) 1=(t.kl:Int):=D;unfold yX Jb;rw[J];refine decide_eq_false ?_;split
  ·omega
  ·simp
 ·obtain⟨-,d1,d2,X,U, -⟩:=q
  cases o
  ·show 1≤t.i∧t.i≤_;omega
  ·show 1≤t.d∧t.d≤_;omega
def TreeV.rowZ (t:TreeV)(kz z1 z2:List Int)(row:Nat)(rt:Bool)(L:List (List Int))(m:Nat):List (List Int):=(List.range m).map fun i=>t.node kz z1 z2 row i (decide (i+1=L.length)) rt (Qi L i)
theorem qan (t:TreeV)(kz z1 z2:List Int)(row:Nat)(o:Bool)(L:List (List Int))(m:Nat):t.rowZ kz z1 z2 row o L (m+1)=t.rowZ kz z1 z2 row o L m++[t.node kz z1 z2 row m (decide (m+1=L.length)) o (Qi L m)]:=by simp[TreeV.rowZ,List.range_succ]
theorem Qo (t:TreeV)(kz z1 z2:List Int)(row:Nat)(o:Bool)(L:List (List Int))(m:Nat):(t.rowZ kz z1 z2 row o L m).length=m:=by simp[TreeV.rowZ]
structure CallS where
 k:Int
 bs:List Int
 kz:List Int
 la:Bool
 o:Int
 ds:List Int
def CallS.zero:CallS:=⟨0,[],[],false,0,[]⟩
def KeepH (w0:World)(B:Nat)(w:World)(v:Value)(z:List Int):Prop:=OwnB B w v z∨Hold w0 v z∧Below w0.heap.size w0 w
theorem KeepH.hold {w0 w:World}{B:Nat}{v:Value}{z:List Int}(h:KeepH w0 B w v z):Hold w v z:=by
 rcases h with h|⟨h,o⟩
 ·exact h.hold
 ·exact h.below o
theorem KeepH.kb {w0 w w':World}{B b:Nat}{v:Value}{z:List Int}(h:KeepH w0 B w v z)(q:w0.heap.size≤b)(k:KB b w w'):KeepH w0 B w' v z:=by
 rcases h with h|⟨h,o⟩
 ·exact .inl (h.kb k)
 ·exact .inr ⟨h,o.trans (k.below.mono q)⟩
theorem KeepH.le {w0 w:World}{B b:Nat}{v:Value}{z:List Int}(h:KeepH w0 B w v z)(o:b≤B):KeepH w0 b w v z:=by
 rcases h with h|h
 ·exact .inl (h.le o)
 ·exact .inr h
def CallAt (w0:World)(B:Nat)(w:World)(s:CallS)(c:List Value):Prop:=
 ∃a1 n1 c1 a2 n2 c2 a3 n3 c3,c=[.int .i64 s.k,.slice a1 n1 c1,.slice a2 n2 c2,.bool s.la,.int .i64 s.o,.slice a3 n3 c3]∧OwnB B w (.slice a1 n1 c1) s.bs∧KeepH w0 B w (.slice a2 n2 c2) s.kz∧KeepH w0 B w (.slice a3 n3 c3) s.ds
theorem CallAt.kb {w0 w w':World}{B b:Nat}{s:CallS}{c:List Value}(h:CallAt w0 B w s c)(o:w0.heap.size≤b)(k:KB b w w'):CallAt w0 B w' s c:=by
 obtain⟨a1,I,c1,a2,D,c2,S,U,O,e,G,q,J⟩:=h;exact⟨a1,I,c1,a2,D,c2,S,U,O,e,G.kb k,q.kb o k,J.kb o k⟩
theorem CallAt.le {w0 w:World}{B b:Nat}{s:CallS}{c:List Value}(h:CallAt w0 B w s c)(o:b≤B):CallAt w0 b w s c:=by
 obtain⟨a1,I,c1,a2,D,c2,S,U,O,e,G,q,J⟩:=h;exact⟨a1,I,c1,a2,D,c2,S,U,O,e,G.le o,q.le o,J.le o⟩
def CallsO (w0:World)(B:Nat)(w:World)(v:Value)(S:List CallS):Prop:=
 ∃cs:List (List Value),cs.length=S.length∧w.ownsRow B 73 6 v S.length cs.flatten∧ ∀i,i<S.length→CallAt w0 B w (S.getD i .zero) (cs.getD i [])
theorem CallsO.nil (w0:World)(B:Nat)(w:World):CallsO w0 B w (.slice none 0 0) []:=⟨[],rfl,Wo _ _ _ _,fun i o=>by simp at o⟩
theorem CallsO.kb {w0 w w':World}{B b:Nat}{v:Value}{S:List CallS}(h:CallsO w0 B w v S)(I:w0.heap.size≤b)(k:KB b w w')(V: ∀g,v.ownBlock=some g→w'.heap[g]? =w.heap[g]?):CallsO w0 B w' v S:=by
 obtain⟨cs,U,q,X⟩:=h;refine⟨cs,U,⟨q.1,?_⟩,fun i Y=>(X i Y).kb I k⟩;rcases q.2 with o|⟨g,D,G,rfl,J,o,O⟩
 ·exact .inl o
 ·exact .inr ⟨g,D,G,rfl,J,by rw[V g rfl];exact o,O⟩
theorem Qw {w:World}{B T n s:Nat}{v:Value}{D:List Value}(G:w.ownsRow B T s v n D): ∀g,v.ownBlock=some g→g<w.heap.size:=by
 intro g o;rcases G.2 with⟨rfl, -⟩|⟨O,I,J,rfl, -,q, -⟩
 ·cases o
 ·simp only[Value.ownBlock,Option.some.injEq]at o;subst o;exact(Ai q).1
theorem CallsO.below {w0 w w':World}{B:Nat}{v:Value}{S:List CallS}(h:CallsO w0 B w v S)(o:w0.heap.size≤w.heap.size)(k:Below w.heap.size w w'):CallsO w0 B w' v S:=by
 refine h.kb o (KB.of_below k Nl) fun g q=>?_
 obtain⟨cs, -,D, -⟩:=h;exact k.block g (Qw D g q)
theorem CallsO.le {w0 w:World}{B b:Nat}{v:Value}{S:List CallS}(h:CallsO w0 B w v S)(o:b≤B):CallsO w0 b w v S:=by
 obtain⟨cs,q,I,D⟩:=h;exact⟨cs,q,ownsRow_le I o,fun i G=>(D i G).le o⟩
theorem jd {α:Type}(L:List α)(x d:α)(i:Nat):(L++[x]).getD i d=if i<L.length then L.getD i d else if i=L.length then x else d:=by
 simp only[Lg];by_cases h:i<L.length
 ·rw[List.getElem?_append_left h,if_pos h]
 ·rw[if_neg h,List.getElem?_append_right (by omega)];by_cases o:i=L.length
  ·subst o;simp
  ·rw[if_neg o,List.getElem?_eq_none (by simp;omega)];rfl
theorem CallsO.snoc {w0 w w':World}{B:Nat}{v':Value}{S:List CallS}{s:CallS}{cs:List (List Value)}{c:List Value}(I: ∀i,i<S.length→CallAt w0 B w (S.getD i .zero) (cs.getD i []))(o:cs.length=S.length)(G:CallAt w0 B w s c)
  (J:w'.ownsRow B 73 6 v' (S.length+1) (cs.flatten++c)) (q:w0.heap.size≤B) (D:KB B w w'):CallsO w0 B w' v' (S++[s]):=by
 refine⟨cs++[c],by simp[o],by simpa using J,fun i O=>?_⟩;simp only[List.length_append,List.length_singleton]at O;rw[jd,jd,o];by_cases h:i<S.length
 ·rw[if_pos h,if_pos h];exact(I i h).kb q D
 ·rw[if_neg h,if_neg h,if_pos (by omega),if_pos (by omega)];exact G.kb q D
theorem Z5 {W W':World}{Y B2 G O s1 s2 X U:Nat}{J I:Value}{Z x2:List Value}(V:W.ownsRow Y G s1 J X Z)(D:W.ownsRow B2 O s2 I U x2)(S:G≠O)(h:Spare (fun k=>J.ownBlock≠some k) W W'): ∀g,I.ownBlock=some g→W'.heap[g]? =W.heap[g]? :=by
 intro g o;refine h.block g (Qw D g o) fun e=>?_
 rcases V.2 with⟨rfl, -⟩|⟨g1,k1,c1,rfl, -,p1, -⟩
 ·cases e
 rcases D.2 with⟨rfl, -⟩|⟨g2,k2,c2,rfl, -,q, -⟩
 ·cases o
 simp only[Value.ownBlock,Option.some.injEq]at e o;subst e o;rw[p1]at q;simp only[Option.some.injEq,Obj.cells.injEq]at q;exact S q.2.1
theorem yC {W W':World}{B T s n:Nat}{v:Value}{D:List Value}(h:W.ownsRow B T s v n D)(J: ∀g,v.ownBlock=some g→W'.heap[g]? =W.heap[g]?):W'.ownsRow B T s v n D:=by
 refine⟨h.1,?_⟩;rcases h.2 with o|⟨g,q,G,rfl,O,o,I⟩
 ·exact .inl o
 ·exact .inr ⟨g,q,G,rfl,O,by rw[J g rfl];exact o,I⟩
theorem jH {W:World}{B T s n:Nat}{v:Value}{o:List Value}(h:W.ownsRow B T s v n o): ∃a n c,v= .slice a n c:=by
 rcases h.2 with⟨rfl, -⟩|⟨g,q,D,rfl, -⟩
 ·exact⟨_,_,_,rfl⟩
 ·exact⟨_,_,_,rfl⟩
def LevO (w0:World)(B:Nat)(w:World)(v:Value)(SS:List (List CallS)):Prop:=
 ∃vs:List Value,w.ownsRow B 111 1 v SS.length vs∧ ∀i,i<SS.length→CallsO w0 B w (vs.getD i undef) (SS.getD i [])
theorem LevO.nil (w0:World)(B:Nat)(w:World):LevO w0 B w (.slice none 0 0) []:=⟨[],Wo _ _ _ _,fun i o=>by simp at o⟩
theorem LevO.below {w0 w w':World}{B:Nat}{v:Value}{o:List (List CallS)}(h:LevO w0 B w v o)(q:w0.heap.size≤w.heap.size)(k:Below w.heap.size w w'):LevO w0 B w' v o:=by
 obtain⟨vs,I,D⟩:=h;exact⟨vs,qi I (fun g _ J=>k.block g J),fun i G=>(D i G).below q k⟩
theorem LevO.le {w0 w:World}{B b:Nat}{v:Value}{o:List (List CallS)}(h:LevO w0 B w v o)(q:b≤B):LevO w0 b w v o:=by
 obtain⟨vs,I,D⟩:=h;exact⟨vs,ownsRow_le I q,fun i G=>(D i G).le q⟩
theorem LevO.snoc {w0 w w':World}{B:Nat}{v v' x:Value}{o:List (List CallS)}{S:List CallS}{vs:List Value}(D:w.ownsRow B 111 1 v o.length vs)(Y: ∀i,i<o.length→CallsO w0 B w (vs.getD i undef) (o.getD i []))(X:CallsO w0 B w x S)
  (G:w'.ownsRow B 111 1 v' (o.length+1) (vs++[x])) (O:w0.heap.size≤B) (U:KB B w w') (q:Spare (fun k=>v.ownBlock≠some k) w w'):LevO w0 B w' v' (o++[S]):=by
 have V:vs.length=o.length:=by have:=D.1;simpa using this
 have one: ∀u S,CallsO w0 B w u S→CallsO w0 B w' u S:=fun u S h=>by
  refine h.kb O U fun g J=>?_
  obtain⟨cs, -,I, -⟩:=h;exact Z5 D I (by decide) q g J
 refine⟨vs++[x],by simpa using G,fun i Z=>?_⟩;simp only[List.length_append,List.length_singleton]at Z;rw[jd,jd,V];by_cases h:i<o.length
 ·rw[if_pos h,if_pos h];exact one _ _ (Y i h)
 ·rw[if_neg h,if_neg h,if_pos (by omega),if_pos (by omega)];exact one _ _ X
theorem qb0:(Tryz.prog.info? 73).map (fun i=>(i.zero,i.size,i.bytes))=some (some (.agg #[.int .i64 0,.slice none 0 0,.slice none 0 0,.bool false,.int .i64 0,.slice none 0 0]),6,96):=by kernel_rfl
theorem qa0:(Tryz.prog.info? 111).map (fun i=>(i.zero,i.size,i.bytes))=some (some (.slice none 0 0),1,24):=by kernel_rfl
theorem qbo {ops:Array Oper}{D:List Oper}{o:Oper}{q:Act}{w:World}{Q:Exit→Act→World→Prop}(Z:o.guard=none)(x:Operand)(ho:o.op= .buildSlice 111 1 #[(0,x)])(S J V U I O:Value)(hx:q.eval x= .agg #[S,J,V,U,I,O])
  (h:wpList Tryz.prog ops Q D (q.put o.dst (.slice (some ⟨w.heap.size,0,none⟩) 1 1)) (w.alloc (.cells #[S,J,V,U,I,O] 73))):wpList Tryz.prog ops Q (o::D) q w:=by
 obtain⟨ib,Y,X,G, -⟩:=info_parts qb0;exact wpList_buildSlice Z 111 73 1 _ ho #[S,J,V,U,I,O] ib _ Tryz.underlying111 Y X (by rw[G];decide) (by rw[G];decide) (by rw[G,show Array.range (1*6)= #[0,1,2,3,4,5] by decide];simp[hx,Instr.fill,Value.cells]) h
theorem qbn {ops:Array Oper}{q:List Oper}{o:Oper}{G:Act}{w:World}{Q:Exit→Act→World→Prop}(U:o.guard=none)(x:Operand)(S:o.op= .buildSlice 114 1 #[(0,x)])(a:Option Addr)(n k:Nat)(V:G.eval x= .slice a n k)
  (h:wpList Tryz.prog ops Q q (G.put o.dst (.slice (some ⟨w.heap.size,0,none⟩) 1 1)) (w.alloc (.cells #[.slice a n k] 111))):wpList Tryz.prog ops Q (o::q) G w:=by
 obtain⟨O,J,I,D, -⟩:=info_parts qa0;exact wpList_buildSlice U 114 111 1 _ S #[.slice a n k] O _ Tryz.underlying114 J I (by rw[D];decide) (by rw[D];decide) (by rw[D,show Array.range (1*1)= #[0] by decide];simp[V,Instr.fill,Value.cells]) h
def TreeV.callS (t:TreeV)(kz z1 z2:List Int)(row i:Nat)(la rt:Bool)(d:List Int):CallS:=⟨t.k,t.blk z1 z2 row i,Jb row kz,la,t.outN rt,d⟩
def TreeV.rowC (t:TreeV)(kz z1 z2:List Int)(row:Nat)(rt:Bool)(L:List (List Int))(m:Nat):List CallS:=(List.range m).map fun i=>t.callS kz z1 z2 row i (decide (i+1=L.length)) rt (Qi L i)
theorem qap (t:TreeV)(kz z1 z2:List Int)(row:Nat)(o:Bool)(L:List (List Int))(m:Nat):t.rowC kz z1 z2 row o L (m+1)=t.rowC kz z1 z2 row o L m++[t.callS kz z1 z2 row m (decide (m+1=L.length)) o (Qi L m)]:=by simp[TreeV.rowC,List.range_succ]
theorem yy (t:TreeV)(kz z1 z2:List Int)(row:Nat)(o:Bool)(L:List (List Int))(m:Nat):(t.rowC kz z1 z2 row o L m).length=m:=by simp[TreeV.rowC]
theorem qbQ {big:Bool}{W:World}{o:Nat}{v:Nat→Nat}{D J I O x:Value}{G:Bool}{q:Int}(h:yO big W o v D J I G O q):yO big (W.setCell ⟨o,33,none⟩ x) o v D J I G x q:=heap_setCell_same W o 33 _ _ x h
theorem qfV {big:Bool}{W:World}{o:Nat}{v:Nat→Nat}{D J I O:Value}{G:Bool}{q x:Int}(h:yO big W o v D J I G O q):yO big (W.setCell ⟨o,34,none⟩ (.int .u64 x)) o v D J I G O x:=heap_setCell_same W o 34 _ _ _ h
theorem qeC {big:Bool}{W:World}{o:Nat}{v:Nat→Nat}{D I G J:Value}{O b:Bool}{q:Int}(h:yO big W o v D I G O J q):yO big (W.setCell ⟨o,13,none⟩ (.bool b)) o v D I G b J q:=heap_setCell_same W o 13 _ _ _ h
theorem qih {W:World}{n b:Nat}{v:Value}{D:List Value}(h:W.ownsRow 0 5 1 v n D)(o:v.ownBlock=some b):b<W.heap.size:=by
 rcases h.2 with⟨rfl, -⟩|⟨g,G,I,rfl,J,q, -⟩
 ·cases o
 ·simp only[Value.ownBlock,Option.some.injEq]at o;subst o;exact(Ai q).1
theorem qcm (big:Bool)(v:Nat→Nat)(o I:List Int)(sa pe kv mv bv:Value)(la:Bool)(U:Int)(G:Nat)(w:World)(hN:yO big w G v sa pe kv la mv U)(hO:w.ownsRow 0 5 1 mv o.length (o.map qp))(hH:Hold w bv I)(hF:I≠[]→ ∀b,bv.ownBlock=some b→Y7 G mv b)(bd:(o.length:Int)+I.length≤140737488355328):
  Calls Tryz.prog 155 #[.pointer (some ⟨G,0,none⟩),bv] w fun e w'=>e= .returned (.tuple #[])∧(∃aa aH,yO big w' G v sa pe kv la aa aH∧w'.ownsRow 0 5 1 aa (o++I).length ((o++I).map qp))∧Spare (Y7 G mv) w w':=by
 obtain⟨i0,hi,aT,aU,aX⟩:=info_parts Qy;have bl:G<w.heap.size:=(Ai hN).1;obtain⟨ba,bc,rfl,aC,a8⟩:=hH.slice;obtain⟨S,hS⟩:=Ex (Y7 G mv);rw[hS];have aN:=hid hN;have aY:=hid hO;have ay:=hid hH;have aB:=hid hF;have ag:=hid hS;clear hN hO hH hF hS aC;have bk:(I.length:Int)≤140737488355328:=by omega
 go_enter Tryz.func155,Tryz.ntmps155
 go_wp2_with fail
 go_loopw [4] (fun i wr=> ∃j:Nat,i= .int .i64 (j:Nat)∧j≤I.length∧(∃aa,yO big wr G v sa pe kv la aa U∧wr.ownsRow 0 5 1 aa (o.length+j) ((o++I.take j).map qp)∧(aa.ownBlock=mv.ownBlock∨ ∀g,aa.ownBlock=some g→w.heap.size≤g))∧Spare S w wr) (fun i _=>I.length - (intOf i).toNat)
 case atStart=>exact⟨0,rfl,Nat.zero_le _,⟨mv,aN.out,by simpa using aY.out,.inl rfl⟩,Spare.refl _ _⟩
 case round=>
  obtain⟨j,rfl,hj,⟨bp,hn,ho,hw⟩,aj⟩:=hrel;obtain⟨a1,n1,c1,rfl⟩:=qu ho;have aL:n1=o.length+j:=yF ho;subst aL;have bn:G<wr.heap.size:=(Ai hn).1;have ao:=hid hn;have ap:=hid ho;have ar:=hid hw;have ah:=hid aj;by_cases am:j<I.length
  case neg=>
   obtain rfl:j=I.length:=by omega
   have bj:wr.cell? ⟨G,34,none⟩=some (.int .u64 U):=qa hn 34;have bg:=frozen_of_row wr G 34 _ _ hn;clear hn ho hw aj;go_wp2
   go_end0
   have aq:=(But.refl G wr).set 34 (.int .u64 (IntKind.u64.wrap (U+(I.length:Int))));refine⟨rfl,⟨_,_,qfV ao.out,?_⟩,ah.out.trans (Spare.of_but ((But.refl G wr).set 34 _)) (fun b _ V=>by have Z:=ag.out;subst Z;exact V.1)⟩;have h1:=ap.out;rw[List.take_length]at h1;rw[List.length_append];exact yS h1 ((But.refl G wr).set 34 _) ao.out (by decide)
  have ak:I≠[]:=fun e=>by rw[e]at am;simp at am
  have ax:Hold wr (.slice ba I.length bc) I:=Y1 ay.out ay.out rfl (Spare.refl S w) aj (fun b V=>by have h4:=ag.out;subst h4;exact aB.out ak b V) ak;obtain⟨bb,af,rfl,q1,q2,q3,q4⟩:=JI ax Br am;have bh:(j:Int)<I.length:=by omega
  have aq:o++I.take (j+1)=(o++I.take j)++[qn I j]:=by rw[ZW am,List.append_assoc]
  have a6:=hid aq;have bf:=hid ax;obtain⟨z,hz⟩:=Ex (qn I j);rw[hz]at q2 q3 q4;have HZ:=hid hz;have Q2:=hid q2;have bm:(o.length:Int)+j<140737488355328:=by omega
  clear hn ho hw aj aq ax hz q2;go_upto_region 3 with(fail)
  have an: ∀(W:World) (f:Bool),((f=false→Below wr.heap.size wr W)∧(f=true→W.heap[G]? =some (.cells (rN (kB big) v sa pe kv la (.slice a1 (o.length+j) c1) U) 254 (0,0))∧Spare (fun b=>(Value.slice a1 (o.length+j) c1).ownBlock≠some b) wr W))→W.cell? ⟨bb,af+j,none⟩=some (.int .u8 z):=fun W f O=>by
   cases f
   ·exact((O.1 rfl).cell (p:=⟨bb,af+j,none⟩) q1).trans Q2.out
   ·refine(World.cell?_of_block ((O.2 rfl).2.block bb q1 ?_)).trans Q2.out;have h4:=ag.out;subst h4;have h5:=(aB.out ak bb rfl).2;rcases ar.out with h6|h6
    ·rw[h6];exact h5
    ·intro e;have:=h6 bb e;have h7:bb<w.heap.size:=Yo ay.out ak rfl;omega
  have al: ∀(W:World) (f:Bool),((f=false→Below wr.heap.size wr W)∧(f=true→W.heap[G]? =some (.cells (rN (kB big) v sa pe kv la (.slice a1 (o.length+j) c1) U) 254 (0,0))∧Spare (fun b=>(Value.slice a1 (o.length+j) c1).ownBlock≠some b) wr W))→bb<W.heap.size:=fun W f O=>by
   cases f
   ·exact Nat.lt_of_lt_of_le q1 (O.1 rfl).size
   ·exact Nat.lt_of_lt_of_le q1 (O.2 rfl).2.size
  have ae: ∀(W:World) (f:Bool),((f=false→Below wr.heap.size wr W)∧(f=true→W.heap[G]? =some (.cells (rN (kB big) v sa pe kv la (.slice a1 (o.length+j) c1) U) 254 (0,0))∧Spare (fun b=>(Value.slice a1 (o.length+j) c1).ownBlock≠some b) wr W))→wr.heap.size≤W.heap.size:=fun W f O=>by
   cases f
   ·exact(O.1 rfl).size
   ·exact(O.2 rfl).2.size
  refine Yz (n:=11) (fun f W=>(f=false→Below wr.heap.size wr W)∧(f=true→W.heap[G]? =some (.cells (rN (kB big) v sa pe kv la (.slice a1 (o.length+j) c1) U) 254 (0,0))∧Spare (fun b=>(Value.slice a1 (o.length+j) c1).ownBlock≠some b) wr W)) 10 [.v 11 (.pointer (some ⟨G,0,none⟩)),.v 12 (.pointer (some ⟨G,0,none⟩)),.v 13 (.pointer (some ⟨G,0,none⟩)),.v 14 (.pointer (some ⟨G,33,none⟩)),.v 15 (.slice a1 (o.length+j) c1),.v 16 (.slice (some ⟨bb,af,none⟩) I.length bc),.v 17 (.int .i64 (j:Nat)),.v 18 (.pointer (some ⟨bb,af+j,none⟩)),.v 19 (.int .u8 z),.p 20 (fun u W=> ∃q,u= .slice (some ⟨q,0,none⟩) 1 1∧wr.heap.size≤q∧W.heap[q]? =some (.cells #[.int .u8 z] 5 (0,0))),.p 21 (fun u W=>W.ownsRow 0 5 1 u (o.length+(j+1)) ((o++I.take (j+1)).map qp)∧(u.ownBlock=(Value.slice a1 (o.length+j) c1).ownBlock∨ ∀g,u.ownBlock=some g→wr.heap.size≤g))] (by exact⟨(fun _ _ V _ h=>by obtain⟨q,e,h1,Z⟩:=h;exact⟨q,e,h1,qe Z V⟩),(fun _ _ V u h=>⟨qi h.1 (fun g _ hg=>V.block g hg),h.2⟩),trivial⟩) ⟨fun _=>Br.drew,fun h=>(by cases h)⟩ (fun f W W' h V=>⟨fun e=>(h.1 e).trans (V.mono (h.1 e).size),fun e=>⟨qe (h.2 e).1 V,(h.2 e).2.trans (Spare.of_below _ V) (fun _ _ h=>h)⟩⟩) ?_ ?_ ?_
  ·repeat' (with_reducible first|exact qx|refine qt ?_ ?_)
   all_goals try
    refine .inr ?_;intro A x W f X O hf J D K hK;have a0:=X.2 0 (by decide);conv at a0=>rhs;whnf
    have a1:=X.2 1 (by decide);conv at a1=>rhs;whnf
    have a4:=X.2 4 (by decide);conv at a4=>rhs;whnf
    simp only[QJ,QS]at D;clear J X;first
    | go_simp
      exact hK _ _ BR rfl
    | have y0:W.cell? ⟨bb,af+j,none⟩=some (.int .u8 z):=an W f O
      have y1:bb<W.heap.size:=al W f O;go_simp
      exact hK _ _ BR rfl
   any_goals exact .inl rfl
   all_goals refine .inr ?_
   ·intro A x W f X O hf J _ K hK;have bi:=gw X J 3 14;clear J X;have aO:f=false:=hf (by kernel_rfl);have g0:=qe ao.out (O.1 aO);have c0:W.cell? ⟨G,33,none⟩=some (.slice a1 (o.length+j) c1):=qa g0 33;go_simp
    exact hK _ _ BR rfl
   ·intro A x W f X O hf J _ K hK;have aV:=gw X J 8 19;clear J X;have a9:A.tmps[19]?.getD undef= .int .u8 z:=by rw[←Lh];exact aV
    go_simp
    exact hK _ _ (Br.alloc Nl _) ⟨W.heap.size,rfl,ae W f O,Wn W _⟩
  ·intro A x W X O J K hK;have aM:=gw X J 4 15;have aI:(fun u W=> ∃q,u= .slice (some ⟨q,0,none⟩) 1 1∧wr.heap.size≤q∧W.heap[q]? =some (.cells #[.int .u8 z] 5 (0,0))) (x 20) W:=J ⟨9,.data⟩ (by simp) rfl;have aS:A.tmps.getD 20 undef=x 20:=X.1 20 (by decide);clear J X;have hB:=O.1 rfl;have ho:=qi ap.out (fun g _ hg=>hB.block g hg);have g0:=qe ao.out hB;obtain⟨qb,eq,bo,aZ⟩:=aI;refine Yf _ _ 24 rfl 0 5 i0 (.int .u8 0) 1 Tryz.underlying24 hi aT aU aX rfl (.slice a1 (o.length+j) c1) (o.length+j) ((o++I.take j).map qp) aM ho (.slice (some ⟨qb,0,none⟩) 1 1) 1 [.int .u8 z] (aS.trans eq) ⟨rfl,by simp[Value.oneCell'],.inr ⟨⟨qb,0,none⟩,1,rfl,jR aZ⟩⟩ (by unfold maxLen;omega) (by omega) (Nat.zero_le _) ?_;intro v' w' h1 Z Y;have h4:w'.heap[G]? =some (.cells (rN (kB big) v sa pe kv la (.slice a1 (o.length+j) c1) U) 254 (0,0)):=(Z.block G (Ai g0).1 (qcA ho g0 (by decide))).trans g0;have h5:w'.ownsRow 0 5 1 v' (o.length+(j+1)) ((o++I.take (j+1)).map qp):=by rw[a6.out,HZ.out,List.map_append,←Nat.add_assoc];exact h1
   have h6: ∀b,(Value.slice a1 (o.length+j) c1).ownBlock=some b→b<wr.heap.size:=fun b V=>qih ap.out V
   refine hK v' w' (fun h=>by cases h) ⟨fun h=>(by cases h),fun _=>⟨h4,(Spare.of_below _ hB).trans (Spare.of_grown Z) (fun _ _ h=>h)⟩⟩ ⟨.inr (fun _ h=>h),.inr (fun _ h=>h),.inr (fun _ h=>h),.inr (fun _ h=>h),.inr (fun _ h=>h),.inr (fun _ h=>h),.inr (fun _ h=>h),.inr (fun _ h=>h),.inr (fun _ h=>h),.inr (fun u h=>by obtain⟨q,e,k1,k2⟩:=h;exact⟨q,e,k1,(Z.block q (Ai k2).1 (fun e2=>by have:=h6 q e2.symm;omega)).trans k2⟩),.inl rfl,trivial⟩ ⟨h5,?_⟩;rcases Y with Y|Y
   ·exact .inl Y
   ·refine .inr fun g hg=>?_
    rw[Y]at hg;cases hg;exact hB.size
  intro x W O aD;obtain⟨az,ab, -⟩:=aD;change (fun u W=> ∃q,u= .slice (some ⟨q,0,none⟩) 1 1∧wr.heap.size≤q∧W.heap[q]? =some (.cells #[.int .u8 z] 5 (0,0))) (x 20) W at az
  change ((fun u W=>W.ownsRow 0 5 1 u (o.length+(j+1)) ((o++I.take (j+1)).map qp)∧(u.ownBlock=(Value.slice a1 (o.length+j) c1).ownBlock∨ ∀g,u.ownBlock=some g→wr.heap.size≤g))) (x 21) W at ab
  obtain⟨ac,av⟩:=O.2 rfl;obtain⟨ad,ai⟩:=ab;obtain⟨a3,n3,c3,ab⟩:=qu ad;rw[ab]at ad ai;obtain rfl:n3=o.length+(j+1):=yF ad;refine qo ?_;simp only[Qx,Act.put,Ls,ab];clear ab az;have aJ:W.cell? ⟨G,33,none⟩=some (.slice a1 (o.length+j) c1):=qa ac 33;have aQ:=frozen_of_row W G 33 _ _ ac;have a5:G<W.heap.size:=(Ai ac).1;have aA:=hid ac;have aP:=hid ad;have aE:=hid ai;have aG:=hid av;clear ac ad ai av O an al ae;go_wp2_with fail
  refine qo ?_;go_wp2_with fail
  refine qo ?_;go_wp2_with fail
  refine qs ?_;have au:But G W (W.setCell ⟨G,33,none⟩ (.slice a3 (o.length+(j+1)) c3)):=(But.refl G W).set 33 _;have aK:=hid (show yO big (W.setCell ⟨G,33,none⟩ (.slice a3 (o.length+(j+1)) c3)) G v sa pe kv la (.slice a3 (o.length+(j+1)) c3) U from qbQ aA.out);have aR:=hid (yS aP.out au aA.out (by decide));have aW:=hid (show(Value.slice a3 (o.length+(j+1)) c3).ownBlock=mv.ownBlock∨ ∀g,(Value.slice a3 (o.length+(j+1)) c3).ownBlock=some g→w.heap.size≤g from by
   rcases aE.out with Y|Y
   ·rw[Y];exact ar.out
   ·exact .inr fun g hg=>Nat.le_trans ah.out.size (Y g hg))
  have aw:Spare S w (W.setCell ⟨G,33,none⟩ (.slice a3 (o.length+(j+1)) c3)):=by
   refine(ah.out.trans aG.out ?_).trans (Spare.of_but au) (fun b _ V=>by have Z:=ag.out;subst Z;exact V.1);intro b be a7;have Z:=ag.out;subst Z;rcases ar.out with Y|Y
   ·rw[Y];exact a7.2
   ·intro e;have:=Y b e;omega
  have aF:=hid aw;clear au aw aJ aQ a5;generalize W.setCell ⟨G,33,none⟩ (.slice a3 (o.length+(j+1)) c3)=W8 at*;go_wp2
  exact⟨⟨j+1,rfl,by omega,⟨_,aK.out,aR.out,aW.out⟩,aF.out⟩,by simp[intOf];omega⟩
theorem qfS (big:Bool)(v:Nat→Nat)(a1 a2:Option Addr)(D G c1 c2:Nat)(kz:List Int)(kv:Value)(w:World)(hP:ParOk big v)(ai:D≤sB big)(al:G≤sB big)(hK:Hold w kv kz)(ae:kz.length≤mB big)(hk:kz.length=0∨kz.length=v 2):
  Calls Tryz.prog 153 #[.int .i64 (kB big),parN v (.slice a1 D c1) (.slice a2 G c2),kv] w fun e w'=> ∃o mv,e= .returned (.tuple #[.pointer (some ⟨o,0,none⟩),.int .i64 0])∧w.heap.size≤o∧yO big w' o v (.slice a1 D c1) (.slice a2 G c2) kv false mv 0∧w'.ownsRow w.heap.size 5 1 mv (yf (bB big) kz).length ((yf (bB big) kz).map qp)∧Below w.heap.size w w':=by
 obtain⟨I,Y⟩:=Ex w.heap.size;obtain⟨ka,kc,rfl,aq,ar⟩:=hK.slice;have ab:=hid (zY hP a1 a2 c1 c2 ai al);have ad:Below I w (w.alloc (.cells #[.int .i64 (v 1:Nat),.int .i64 (v 2:Nat),.int .i64 (v 3:Nat),.int .i64 (v 4:Nat),.int .u32 (v 5:Nat),.int .u64 (v 6:Nat),.int .u32 (v 7:Nat),.int .i64 (v 8:Nat),.int .i64 (v 9:Nat),.slice a1 D c1,.slice a2 G c2] 171)):=by rw[←Y];exact Br.alloc Nl _
 have S:=Wn w (.cells #[.int .i64 (v 1:Nat),.int .i64 (v 2:Nat),.int .i64 (v 3:Nat),.int .i64 (v 4:Nat),.int .u32 (v 5:Nat),.int .u64 (v 6:Nat),.int .u32 (v 7:Nat),.int .i64 (v 8:Nat),.int .i64 (v 9:Nat),.slice a1 D c1,.slice a2 G c2] 171);rw[Y]at S;have hq:(((kz.length:Int) != 0)&&((kz.length:Int) != (v 2:Nat)))=false:=by rcases hk with h|h<;>simp[h]
 obtain⟨q0,au⟩: ∃q,((kz.length:Int) != 0)=q:=⟨_,rfl⟩;obtain⟨q1,aA⟩: ∃q,((kz.length:Int) != (v 2:Nat))=q:=⟨_,rfl⟩;rw[au,aA]at hq;have aD:=hid hK;have ao:=hid ae;clear hP ai al hK ae hk aq ar;unfold parN yK;unfold parN yK at ab;go_enter Tryz.func153,Tryz.ntmps153
 go_upto_region 1 with(fail)
 generalize w.alloc (.cells #[.int .i64 (v 1:Nat),.int .i64 (v 2:Nat),.int .i64 (v 3:Nat),.int .i64 (v 4:Nat),.int .u32 (v 5:Nat),.int .u64 (v 6:Nat),.int .u32 (v 7:Nat),.int .i64 (v 8:Nat),.int .i64 (v 9:Nat),.slice a1 D c1,.slice a2 G c2] 171)=wA at*;go_wp2_with ((with_reducible show wpList _ _ _ (Oper.mk _ (Op.load 171 _) _ _ _ _::_) _ _);refine wpList_load_row rfl 171 _ rfl I rfl _ _ _ _ S Tryz.underlying171 rfl (by kernel_rfl) ?_)
 refine(ab.out wA).mono ?_;rintro e O ⟨rfl,V⟩;have Z:=qe S V;have aF:=V.size;have an:I<wA.heap.size:=(Ai S).1;have ap:I<O.heap.size:=by omega
 have ak:Below I w O:=ad.trans (V.mono (by omega));have aC:O.cell? ⟨I,1,none⟩=some (.int .i64 (v 2:Nat)):=qa Z 1;have ah:=hid ak;have ay:=hid Z;clear V ad S ak aF an ab
 cases q0<;>cases q1<;>first|(exfalso;cases hq;done)|skip
 all_goals
  clear hq;go_upto_region 7 with((with_reducible show wpList _ _ _ (Oper.mk _ (Op.load 171 _) _ _ _ _::_) _ _);refine wpList_load_row rfl 171 _ rfl I rfl _ _ _ _ Z Tryz.underlying171 rfl (by kernel_rfl) ?_)
  change Code.wp _ _ _ _ (O.alloc (.cells (rN (kB big) v (.slice a1 D c1) (.slice a2 G c2) (.slice ka kz.length kc) false (.slice none 0 0) 0) 254))
  have X:yO big (O.alloc (.cells (rN (kB big) v (.slice a1 D c1) (.slice a2 G c2) (.slice ka kz.length kc) false (.slice none 0 0) 0) 254)) O.heap.size v (.slice a1 D c1) (.slice a2 G c2) (.slice ka kz.length kc) false (.slice none 0 0) 0:=Wn _ _;have ac:Below I w (O.alloc (.cells (rN (kB big) v (.slice a1 D c1) (.slice a2 G c2) (.slice ka kz.length kc) false (.slice none 0 0) 0) 254)):=ah.out.alloc (by omega) _;obtain⟨o,aw⟩:=Ex O.heap.size;rw[aw]at X ap⊢;generalize (O.alloc (.cells (rN (kB big) v (.slice a1 D c1) (.slice a2 G c2) (.slice ka kz.length kc) false (.slice none 0 0) 0) 254))=W2 at*;have ax:=hid X;have az:=hid ac;have am:=(aD.out.below (Y▸ac));have aB:=hid am;have aI:o<W2.heap.size:=(Ai X).1;clear X ac am aC ay Z ah;go_wp2_with fail
  refine(qdl big kz _ W2 aB.out ao.out).mono ?_;rintro e J ⟨mv,rfl,ho,aa⟩;obtain⟨ma,mn,mc,rfl⟩:=qu ho;have U:=qe ax.out aa;have aH:J.cell? ⟨o,33,none⟩=some (.slice none 0 0):=qa U 33;have aJ:=frozen_of_row J o 33 _ _ U;have aK:o<J.heap.size:=(Ai U).1;have ag:Below I w J:=az.out.trans (aa.mono (by omega));have af:But o J (J.setCell ⟨o,33,none⟩ (.slice ma mn mc)):=(But.refl o J).set 33 _;have aj:(J.setCell ⟨o,33,none⟩ (.slice ma mn mc)).ownsRow w.heap.size 5 1 (.slice ma mn mc) (yf (bB big) kz).length ((yf (bB big) kz).map qp):=by
   rcases ho.2 with⟨h2,h3⟩|⟨g,aE,aG,h2,h3,h4,h5⟩
   ·exact⟨ho.1,.inl ⟨h2,h3⟩⟩
   ·refine⟨ho.1,.inr ⟨g,aE,aG,h2,by omega,?_,h5⟩⟩;rw[af.block g (Ai h4).1 (by omega)];exact h4
  have HF:=hid (show yO big (J.setCell ⟨o,33,none⟩ (.slice ma mn mc)) o v (.slice a1 D c1) (.slice a2 G c2) (.slice ka kz.length kc) false (.slice ma mn mc) 0 from qbQ U);have HO:=hid aj;have av:=hid (show Below I w (J.setCell ⟨o,33,none⟩ (.slice ma mn mc)) from ag.setCell (by show I≤o;omega) _);clear ho aa U ag af aj;go_wp2
  go_ret2
  exact⟨o,_,rfl,by omega,HF.out,HO.out,by rw[Y];exact av.out⟩
theorem zI {P:Program}{fn:Func}{p I G D:Tmp}{o:TypeId}(h:fn.results= #[.cell p o,.tmp I,.tmp G,.tmp D])(tmps:Array Value)(w:World)(g:Nat)(t:TypeId)(cs:Array Value)(fr:Nat×Nat)(d:TypeDesc)
  (J:tmps.getD p undef= .pointer (some ⟨g,0,none⟩)) (O:w.heap[g]? =some (.cells cs t fr))
  (S:P.underlying o=some d) (U:(match d with| .struct _| .array _ _=>true|_=>false)=true) (V:(P.info? o).map (·.size)=some cs.size):
  (results fn tmps).run P w= .ok (.tuple #[.agg cs,tmps.getD I undef,tmps.getD G undef,tmps.getD D undef]) w:=by
 have q:tmps[p]?.getD undef= .pointer (some ⟨g,0,none⟩):=by simpa using J
 simp[results,h,q,asAddr,run_loadVar_row w g t o cs fr d O S U V]
theorem qgX {n L k:Nat}(D:0<n)(G:k≤nbk n L):(n*k+n<L↔k<nbk n L):=by
 have I:=yP D L;have e:n*(k+1)=n*k+n:=Nat.mul_succ _ _;constructor
 ·intro h;refine Nat.lt_of_le_of_ne G fun o=>?_
  rw[o]at h;omega
 ·intro h;have J:n*(k+1)≤n*nbk n L:=Nat.mul_le_mul_left _ h;by_cases q:0<L
  ·have:=I.2.2 q;omega
  ·have:L=0:=by omega
   subst this;rw[qdx]at h;omega
theorem qaI (v:Nat→Nat)(z1 z2 o:List Int)(sa pe kv mv:Value)(la:Bool)(aj:Int)(I:Nat)(w:World)(hN:yO true w I v sa pe kv la mv aj)(hP:ParOk true v)(h1:Hold w sa z1)(h2:Hold w pe z2)(aK:z1.length≤16)(aL:z2.length≤16)(hM:Hold w mv o)(a3:(o.length:Int)≤281474976710656):
  Calls Tryz.prog 176 #[.pointer (some ⟨I,0,none⟩)] w fun e w'=>e= .returned (.tuple #[.agg (qg .u64 (qH (stZ true (h0Z true (QI true v z1 z2)) o (nbk 128 o.length)))),.int .u64 ((128*nbk 128 o.length:Nat):Int),.int .u64 0,.int .i64 ((128*nbk 128 o.length:Nat):Int)])∧Below w.heap.size w w':=by
 obtain⟨U,X⟩:=Ex w.heap.size;obtain⟨ma,mc,rfl,aO,aS⟩:=hM.slice;have aG:I<U:=by rw[←X];exact(Ai hN).1
 have aE:=fun(W:World) (O:Below U w W)=>qbv v z1 z2 sa pe kv (.slice ma o.length mc) la aj I W ((O.block I aG).trans hN) hP (h1.below (X▸O)) (h2.below (X▸O)) aK aL
 have aI:=fun(W:World) (O:Below U w W)=>hM.below (X▸O)
 have ad:=QK true (QI true v z1 z2);generalize h0Z true (QI true v z1 z2)=V at*;have aM:=fun k=>yD true ad o k
 obtain⟨Q,hQ⟩:=Ex (nbk 128 o.length);have ab:=fun(k:Nat) (hk:k≤Q)=>(hQ▸qgX (n:=128) (L:=o.length) (by decide) (hQ▸hk):(128*k+128<o.length↔k<Q))
 have bq:128*Q≤o.length:=by rw[←hQ];exact(yP (by decide) _).1
 rw[hQ];have aD:w.heap[I]? =some (.cells (rN 1 v sa pe kv la (.slice ma o.length mc) aj) 254 (0,0)):=hN;have au:=hid aE;have aU:=hid aI;have ao:=hid aM;have aT:=hid ab;have aV:=hid aD;have aY:=hid hM.1;clear hN aD aE aI aM hQ ab hP h1 h2 hM aO aS aK aL;go_enter Tryz.func176,Tryz.ntmps176
 go_wp2_with fail
 have an:Below U w (w.alloc (.cells #[.int .u64 0,.int .u64 0,.int .u64 0,.int .u64 0,.int .u64 0,.int .u64 0,.int .u64 0,.int .u64 0,.int .u64 0,.int .u64 0,.int .u64 0,.int .u64 0,.int .u64 0,.int .u64 0,.int .u64 0,.int .u64 0] 252)):=by rw[←X];exact Br.alloc Nl _
 have r0:(w.alloc (.cells #[.int .u64 0,.int .u64 0,.int .u64 0,.int .u64 0,.int .u64 0,.int .u64 0,.int .u64 0,.int .u64 0,.int .u64 0,.int .u64 0,.int .u64 0,.int .u64 0,.int .u64 0,.int .u64 0,.int .u64 0,.int .u64 0] 252)).heap[U]? =some (.cells #[.int .u64 0,.int .u64 0,.int .u64 0,.int .u64 0,.int .u64 0,.int .u64 0,.int .u64 0,.int .u64 0,.int .u64 0,.int .u64 0,.int .u64 0,.int .u64 0,.int .u64 0,.int .u64 0,.int .u64 0,.int .u64 0] 252 (0,0)):=by rw[←X];exact Wn _ _
 have bc:(w.alloc (.cells #[.int .u64 0,.int .u64 0,.int .u64 0,.int .u64 0,.int .u64 0,.int .u64 0,.int .u64 0,.int .u64 0,.int .u64 0,.int .u64 0,.int .u64 0,.int .u64 0,.int .u64 0,.int .u64 0,.int .u64 0,.int .u64 0] 252)).heap.size=U+1:=by simp[X]
 generalize (w.alloc (.cells #[.int .u64 0,.int .u64 0,.int .u64 0,.int .u64 0,.int .u64 0,.int .u64 0,.int .u64 0,.int .u64 0,.int .u64 0,.int .u64 0,.int .u64 0,.int .u64 0,.int .u64 0,.int .u64 0,.int .u64 0,.int .u64 0] 252))=W1 at*;refine(au.out W1 an).mono ?_;rintro e w2 ⟨rfl,am⟩;have aa:=am.size;have aA:=qe r0 am;have aJ:=an.trans (am.mono (by omega));have R0:=hid aA;have aF:=hid aJ;clear an r0 am aA aJ au;have aH:=hid (qX (by decide) ad);clear ad;go_upto_region 2 with((with_reducible show wpList _ _ _ (Oper.mk none (Op.store 252 _ _) _ _ _ _::_) _ _);refine wpList_store_row rfl 252 _ _ rfl w2.heap.size (qg .u64 (qH V)) rfl rfl 252 _ (Wn _ _) (by rw[qd,aH.out.1];kernel_rfl) (by rw[qd,aH.out.1];rfl) qw ?_)
 refine qj ?_;intro W S;obtain⟨Z,aq⟩:=Ex w2.heap.size;have m6:W.heap[Z]? =some (.cells (qg .u64 (qH (stZ true V o 0))) 252 (0,0)):=by rw[S,←aq];exact setRow_heap _ _ _ _ _ _ (Wn _ _)
 have m0:W.heap[U]? =some (.cells #[.int .u64 0,.int .u64 0,.int .u64 0,.int .u64 0,.int .u64 0,.int .u64 0,.int .u64 0,.int .u64 0,.int .u64 0,.int .u64 0,.int .u64 0,.int .u64 0,.int .u64 0,.int .u64 0,.int .u64 0,.int .u64 0] 252 (0,0)):=by rw[S];exact(setRow_other (w2.alloc _) _ _ _ (by omega)).trans ((Bh _ _ _ (by omega)).trans R0.out)
 have ae:Below U w W:=by rw[S];exact below_setRow (aF.out.alloc (by omega) _) (by omega) _
 have mn:W.heap[I]? =some (.cells (rN 1 v sa pe kv la (.slice ma o.length mc) aj) 254 (0,0)):=(ae.block I aG).trans aV.out;rw[aq];have bd:U<Z:=by omega
 have bn:Z<W.heap.size:=(Ai m6).1;have bv:W.cell? ⟨I,31,none⟩=some (.int .u64 0):=qa mn 31;have bo:W.cell? ⟨I,32,none⟩=some (.int .u64 0):=qa mn 32;have bm:W.cell? ⟨I,0,none⟩=some (.int .i64 1):=qa mn 0;have M6:=hid m6;have M0:=hid m0;have MN:=hid mn;have ba:=hid ae;clear S aq m6 m0 mn ae R0 aF bc aa;go_wp2_with fail
 refine(YG true _).mono ?_;rintro e w4 ⟨rfl,hw⟩;rw[hw];clear hw;rw[show((bB true:Nat):Int)=128 from rfl];go_wp2_with fail
 go_loopw [7,8,10] (fun lo hi at_ wr=> ∃k:Nat,lo= .int .u64 ((128*k:Nat):Int)∧hi= .int .u64 0∧at_= .int .i64 ((128*k:Nat):Int)∧k≤Q∧wr.heap[Z]? =some (.cells (qg .u64 (qH (stZ true V o k))) 252 (0,0))∧But Z W wr) (fun _ _ at_ _=>o.length - (intOf at_).toNat)
 case atStart=>exact⟨0,rfl,rfl,rfl,Nat.zero_le _,M6.out,But.refl _ _⟩
 case round=>
  obtain⟨k,rfl,rfl,rfl,hk,ai,O⟩:=hrel;have aP:Z<wr.heap.size:=by have:=O.size;omega
  have hn:=(O.block I (by omega) (by omega)).trans MN.out;have aW:wr.cell? ⟨I,33,none⟩=some (.slice ma o.length mc):=qa hn 33;have bb:I<wr.heap.size:=by omega
  have aw:Below U w wr:=ba.out.trans (O.below (by omega) (by omega));have ac:=aT.out k hk;have ap:128*k≤128*Q:=Nat.mul_le_mul_left _ hk;obtain⟨s,hs⟩:=Ex (128*k);have aa:128*(k+1)=s+128:=by rw[←hs];exact Nat.mul_succ _ _
  have aQ:=hid (show JN 128 o k=Qv 128 ((o.drop s).take 128) by unfold JN;rw[hs]);have aB:=hid aa;have HS:=hid hs;rw[hs]at ac ap⊢;have al:=ao.out k;have af:stZ true V o (k+1)=yk true (stZ true V o k) (Qv 128 ((o.drop s).take 128)) ((s+128:Nat):Int) false false:=by
   show yk true (stZ true V o k) (JN (bB true) o k) ((bB true*(k+1):Nat):Int) false false=_
   rw[show bB true=128 from rfl,aQ.out,aa]
  have ak:=hid ai;have aX:=hid O;have az:=hid hn;have ag:=hid aw;have ah:=hid al;have ay:=hid af;clear hs aa;have br:(s:Int)≤o.length:=by omega
  by_cases ab:k<Q
  case neg=>
   obtain rfl:k=Q:=by omega
   have bg: ¬((s:Int)+128<o.length):=by have:=ac;omega
   have n0:=(O.block U (by omega) (by omega)).trans M0.out;have J:=qX (by decide) al;have be:U<wr.heap.size:=by omega
   clear O hn aw al af ac ab ap;go_wp2_with (first|((with_reducible show wpList _ _ _ (Oper.mk (some 62) _ _ _ _ _::_) _ _);refine wpList_load_row rfl 252 _ rfl Z rfl _ _ _ _ ai Tryz.underlying252 rfl (by rw[qd,J.1];kernel_rfl) ?_)|((with_reducible show wpList _ _ _ (Oper.mk none (Op.store 252 _ _) _ _ _ _::_) _ _);refine wpList_store_row rfl 252 _ _ rfl U (qg .u64 (qH (stZ true V o k))) rfl rfl 252 _ n0 (by rw[qd,J.1];kernel_rfl) (by rw[qd,J.1];rfl) qw ?_))
   exact Bp (zI rfl _ _ U 252 _ _ _ rfl (setRow_heap _ _ _ _ _ _ n0) Tryz.underlying252 rfl (by rw[qd,J.1];kernel_rfl)) rfl ⟨by rw[show((128:Int)*(k:Int))=(s:Int) from by have:=HS.out;omega];rfl,by first|exact below_setRow ag.out Nl _|(rw[X];exact below_setRow ag.out Nl _)⟩
  have bf:(s:Int)+128<o.length:=by have:=ac.2 ab;omega
  have ar:(s:Int)+128<9223372036854775808:=by omega
  have aR:=hid ar;clear ai O hn aw al af ac ap ar;go_wp2_with fail
  refine(Z2 s 128 (by omega) _).mono ?_;rintro e w4 ⟨rfl,hw⟩;rw[hw];clear hw;go_upto_region 8 with(fail)
  refine qA (n:=15) (w0:=wr) (B:=wr.heap.size) [.v 44 (.pointer (some ⟨I,0,none⟩)),.v 45 (.pointer (some ⟨I,0,none⟩)),.v 46 (.pointer (some ⟨I,0,none⟩)),.v 47 (.int .i64 1),.v 48 (.agg (qg .u64 (qH (stZ true V o k)))),.v 49 (.pointer (some ⟨I,0,none⟩)),.v 50 (.pointer (some ⟨I,0,none⟩)),.v 51 (.pointer (some ⟨I,33,none⟩)),.v 52 (.slice ma o.length mc),.v 53 (.int .i64 (s:Nat)),.v 54 (.int .i64 128),.p 55 (fun u W=>W.ownsRow wr.heap.size 5 1 u 128 ((Qv 128 ((o.drop s).take 128)).map qp)),.v 56 (.int .u64 ((s:Int)+128)),.v 57 (.int .u64 0),.v 58 (.agg (qg .u64 (qH (stZ true V o (k+1)))))] (by exact⟨(fun _ _ _ h O=>qi h (fun g _ hg=>O.block g hg)),trivial⟩) Br.drew Nl ?_ ?_
  ·repeat' (with_reducible first|exact qx|refine qt ?_ ?_)
   all_goals try
    intro A x W G S Y q D K hK;have a0:=G.2 0 (by decide);conv at a0=>rhs;whnf
    have a4:=G.2 10 (by decide);conv at a4=>rhs;whnf
    have a9:=G.2 9 (by decide);conv at a9=>rhs;whnf
    have a7:=G.2 7 (by decide);conv at a7=>rhs;whnf
    have a8:=G.2 8 (by decide);conv at a8=>rhs;whnf
    simp only[QJ,QS]at D;clear q G;go_simp
    exact hK _ _ BR rfl
   ·intro A x W G S Y q _ K hK;have bi:=gv G q 2 46;clear q G;have g0:=qe az.out S;have c0:W.cell? ⟨I,0,none⟩=some (.int .i64 1):=qa g0 0;go_simp
    exact hK _ _ BR rfl
   ·intro A x W G S Y q _ K hK;have a6:=G.2 6 (by decide);conv at a6=>rhs;whnf
    clear q G;have g0:=qe ak.out S;have J:=qX (by decide) ah.out;refine wp_load_row 252 _ rfl Z a6 _ _ _ _ g0 Tryz.underlying252 rfl (by rw[qd,J.1];kernel_rfl) (hK _ _ Br rfl)
   ·intro A x W G S Y q _ K hK;have bl:=gv G q 7 51;clear q G;have g0:=qe az.out S;have c0:W.cell? ⟨I,33,none⟩=some (.slice ma o.length mc):=qa g0 33;go_simp
    exact hK _ _ BR rfl
   ·intro A x W G S Y q _ K hK;have bt:=gv G q 8 52;have bw:=gv G q 9 53;have bu:=gv G q 10 54;clear q G;go_simp
    refine(Z1 o _ s 128 W (aU.out W (ag.out.trans (S.mono (by omega)))) (by decide) (by omega) a3).mono ?_;rintro e w' ⟨u,rfl,ho,O⟩;exact hK _ _ O (ownsRow_le ho Y)
   ·intro A x W G S Y q _ K hK;have bj:=gv G q 3 47;have bs:=gv G q 4 48;have aZ:(fun u W=>W.ownsRow wr.heap.size 5 1 u 128 ((Qv 128 ((o.drop s).take 128)).map qp)) (x 55) W:=q ⟨11,.data⟩ (by simp) rfl _ rfl;have bh:A.tmps.getD 55 undef=x 55:=G.1 55 (by decide);have bk:=gv G q 12 56;have bp:=gv G q 13 57;clear q G;have a5:=Q8 (n:=128) (zs:=(o.drop s).take 128) (fun z hz=>aY.out z (List.mem_of_mem_drop (List.mem_of_mem_take hz)));go_simp
    rw[show(s:Int)+128=((s+128:Nat):Int) from rfl];refine(qaK (stZ true V o k) (Qv 128 ((o.drop s).take 128)) ah.out _ (s+128) aR.out false false W (QR aZ) a5 (QC (List.length_take_le _ _))).mono ?_;rintro e w' ⟨rfl,O⟩;rw[←ay.out];exact hK _ _ O rfl
  intro x W S Y aN;obtain⟨aC, -⟩:=aN;change (fun u W=>W.ownsRow wr.heap.size 5 1 u 128 ((Qv 128 ((o.drop s).take 128)).map qp)) (x 55) W at aC
  refine qo ?_;simp only[Qx,Act.put,Ls];have ax:=qe ak.out S;have J:=qX (by decide) (ao.out (k+1));have av:=qX (by decide) ah.out;refine wpList_store_row rfl 252 _ _ rfl Z (qg .u64 (qH (stZ true V o (k+1)))) rfl rfl 252 _ ax (by rw[qd,J.1];kernel_rfl) (by rw[qd,qd,J.1,av.1]) qw ?_;refine qs ?_;have HA:=hid (setRow_heap _ Z _ (qg .u64 (qH (stZ true V o (k+1)))) _ _ ax);have HC:=hid (aX.out.trans ((But.of_below S).trans (But.of_setRow _ Z (qg .u64 (qH (stZ true V o (k+1)))))));clear ax J av aC S Y aW bb aP;go_wp2
  refine⟨⟨k+1,by rw[aB.out];rfl,rfl,by rw[aB.out];rfl,by omega,HA.out,HC.out⟩,?_⟩;simp[intOf];omega
theorem qak (v:Nat→Nat)(z1 z2 o:List Int)(sa pe kv mv:Value)(la:Bool)(aj:Int)(I:Nat)(w:World)(hN:yO false w I v sa pe kv la mv aj)(hP:ParOk false v)(h1:Hold w sa z1)(h2:Hold w pe z2)(aK:z1.length≤8)(aL:z2.length≤8)(hM:Hold w mv o)(a3:(o.length:Int)≤281474976710656):
  Calls Tryz.prog 176 #[.pointer (some ⟨I,0,none⟩)] w fun e w'=>e= .returned (.tuple #[.agg (qg .u64 (qH (stZ false (h0Z false (QI false v z1 z2)) o (nbk 64 o.length)))),.int .u64 ((64*nbk 64 o.length:Nat):Int),.int .u64 0,.int .i64 ((64*nbk 64 o.length:Nat):Int)])∧Below w.heap.size w w':=by
 obtain⟨U,X⟩:=Ex w.heap.size;obtain⟨ma,mc,rfl,aO,aS⟩:=hM.slice;have aG:I<U:=by rw[←X];exact(Ai hN).1
 have aE:=fun(W:World) (O:Below U w W)=>qaP v z1 z2 sa pe kv (.slice ma o.length mc) la aj I W ((O.block I aG).trans hN) hP (h1.below (X▸O)) (h2.below (X▸O)) aK aL
 have aI:=fun(W:World) (O:Below U w W)=>hM.below (X▸O)
 have ad:=QK false (QI false v z1 z2);generalize h0Z false (QI false v z1 z2)=V at*;have aM:=fun k=>yD false ad o k
 obtain⟨Q,hQ⟩:=Ex (nbk 64 o.length);have ab:=fun(k:Nat) (hk:k≤Q)=>(hQ▸qgX (n:=64) (L:=o.length) (by decide) (hQ▸hk):(64*k+64<o.length↔k<Q))
 have bq:64*Q≤o.length:=by rw[←hQ];exact(yP (by decide) _).1
 rw[hQ];have aD:w.heap[I]? =some (.cells (rN 2 v sa pe kv la (.slice ma o.length mc) aj) 254 (0,0)):=hN;have au:=hid aE;have aU:=hid aI;have ao:=hid aM;have aT:=hid ab;have aV:=hid aD;have aY:=hid hM.1;clear hN aD aE aI aM hQ ab hP h1 h2 hM aO aS aK aL;go_enter Tryz.func176,Tryz.ntmps176
 go_wp2_with fail
 have an:Below U w (w.alloc (.cells #[.int .u64 0,.int .u64 0,.int .u64 0,.int .u64 0,.int .u64 0,.int .u64 0,.int .u64 0,.int .u64 0,.int .u64 0,.int .u64 0,.int .u64 0,.int .u64 0,.int .u64 0,.int .u64 0,.int .u64 0,.int .u64 0] 252)):=by rw[←X];exact Br.alloc Nl _
 have r0:(w.alloc (.cells #[.int .u64 0,.int .u64 0,.int .u64 0,.int .u64 0,.int .u64 0,.int .u64 0,.int .u64 0,.int .u64 0,.int .u64 0,.int .u64 0,.int .u64 0,.int .u64 0,.int .u64 0,.int .u64 0,.int .u64 0,.int .u64 0] 252)).heap[U]? =some (.cells #[.int .u64 0,.int .u64 0,.int .u64 0,.int .u64 0,.int .u64 0,.int .u64 0,.int .u64 0,.int .u64 0,.int .u64 0,.int .u64 0,.int .u64 0,.int .u64 0,.int .u64 0,.int .u64 0,.int .u64 0,.int .u64 0] 252 (0,0)):=by rw[←X];exact Wn _ _
 have bc:(w.alloc (.cells #[.int .u64 0,.int .u64 0,.int .u64 0,.int .u64 0,.int .u64 0,.int .u64 0,.int .u64 0,.int .u64 0,.int .u64 0,.int .u64 0,.int .u64 0,.int .u64 0,.int .u64 0,.int .u64 0,.int .u64 0,.int .u64 0] 252)).heap.size=U+1:=by simp[X]
 generalize (w.alloc (.cells #[.int .u64 0,.int .u64 0,.int .u64 0,.int .u64 0,.int .u64 0,.int .u64 0,.int .u64 0,.int .u64 0,.int .u64 0,.int .u64 0,.int .u64 0,.int .u64 0,.int .u64 0,.int .u64 0,.int .u64 0,.int .u64 0] 252))=W1 at*;refine(au.out W1 an).mono ?_;rintro e w2 ⟨rfl,am⟩;have aa:=am.size;have aA:=qe r0 am;have aJ:=an.trans (am.mono (by omega));have R0:=hid aA;have aF:=hid aJ;clear an r0 am aA aJ au;have aH:=hid (qX (by decide) ad);clear ad;go_upto_region 2 with((with_reducible show wpList _ _ _ (Oper.mk none (Op.store 252 _ _) _ _ _ _::_) _ _);refine wpList_store_row rfl 252 _ _ rfl w2.heap.size (qg .u64 (qH V)) rfl rfl 252 _ (Wn _ _) (by rw[qd,aH.out.1];kernel_rfl) (by rw[qd,aH.out.1];rfl) qw ?_)
 refine qj ?_;intro W S;obtain⟨Z,aq⟩:=Ex w2.heap.size;have m6:W.heap[Z]? =some (.cells (qg .u64 (qH (stZ false V o 0))) 252 (0,0)):=by rw[S,←aq];exact setRow_heap _ _ _ _ _ _ (Wn _ _)
 have m0:W.heap[U]? =some (.cells #[.int .u64 0,.int .u64 0,.int .u64 0,.int .u64 0,.int .u64 0,.int .u64 0,.int .u64 0,.int .u64 0,.int .u64 0,.int .u64 0,.int .u64 0,.int .u64 0,.int .u64 0,.int .u64 0,.int .u64 0,.int .u64 0] 252 (0,0)):=by rw[S];exact(setRow_other (w2.alloc _) _ _ _ (by omega)).trans ((Bh _ _ _ (by omega)).trans R0.out)
 have ae:Below U w W:=by rw[S];exact below_setRow (aF.out.alloc (by omega) _) (by omega) _
 have mn:W.heap[I]? =some (.cells (rN 2 v sa pe kv la (.slice ma o.length mc) aj) 254 (0,0)):=(ae.block I aG).trans aV.out;rw[aq];have bd:U<Z:=by omega
 have bn:Z<W.heap.size:=(Ai m6).1;have bv:W.cell? ⟨I,31,none⟩=some (.int .u64 0):=qa mn 31;have bo:W.cell? ⟨I,32,none⟩=some (.int .u64 0):=qa mn 32;have bm:W.cell? ⟨I,0,none⟩=some (.int .i64 2):=qa mn 0;have M6:=hid m6;have M0:=hid m0;have MN:=hid mn;have ba:=hid ae;clear S aq m6 m0 mn ae R0 aF bc aa;go_wp2_with fail
 refine(YG false _).mono ?_;rintro e w4 ⟨rfl,hw⟩;rw[hw];clear hw;rw[show((bB false:Nat):Int)=64 from rfl];go_wp2_with fail
 go_loopw [7,8,10] (fun lo hi at_ wr=> ∃k:Nat,lo= .int .u64 ((64*k:Nat):Int)∧hi= .int .u64 0∧at_= .int .i64 ((64*k:Nat):Int)∧k≤Q∧wr.heap[Z]? =some (.cells (qg .u64 (qH (stZ false V o k))) 252 (0,0))∧But Z W wr) (fun _ _ at_ _=>o.length - (intOf at_).toNat)
 case atStart=>exact⟨0,rfl,rfl,rfl,Nat.zero_le _,M6.out,But.refl _ _⟩
 case round=>
  obtain⟨k,rfl,rfl,rfl,hk,ai,O⟩:=hrel;have aP:Z<wr.heap.size:=by have:=O.size;omega
  have hn:=(O.block I (by omega) (by omega)).trans MN.out;have aW:wr.cell? ⟨I,33,none⟩=some (.slice ma o.length mc):=qa hn 33;have bb:I<wr.heap.size:=by omega
  have aw:Below U w wr:=ba.out.trans (O.below (by omega) (by omega));have ac:=aT.out k hk;have ap:64*k≤64*Q:=Nat.mul_le_mul_left _ hk;obtain⟨s,hs⟩:=Ex (64*k);have aa:64*(k+1)=s+64:=by rw[←hs];exact Nat.mul_succ _ _
  have aQ:=hid (show JN 64 o k=Qv 64 ((o.drop s).take 64) by unfold JN;rw[hs]);have aB:=hid aa;have HS:=hid hs;rw[hs]at ac ap⊢;have al:=ao.out k;have af:stZ false V o (k+1)=yk false (stZ false V o k) (Qv 64 ((o.drop s).take 64)) ((s+64:Nat):Int) false false:=by
   show yk false (stZ false V o k) (JN (bB false) o k) ((bB false*(k+1):Nat):Int) false false=_
   rw[show bB false=64 from rfl,aQ.out,aa]
  have ak:=hid ai;have aX:=hid O;have az:=hid hn;have ag:=hid aw;have ah:=hid al;have ay:=hid af;clear hs aa;have br:(s:Int)≤o.length:=by omega
  by_cases ab:k<Q
  case neg=>
   obtain rfl:k=Q:=by omega
   have bg: ¬((s:Int)+64<o.length):=by have:=ac;omega
   have n0:=(O.block U (by omega) (by omega)).trans M0.out;have J:=qX (by decide) al;have be:U<wr.heap.size:=by omega
   clear O hn aw al af ac ab ap;go_wp2_with (first|((with_reducible show wpList _ _ _ (Oper.mk (some 62) _ _ _ _ _::_) _ _);refine wpList_load_row rfl 252 _ rfl Z rfl _ _ _ _ ai Tryz.underlying252 rfl (by rw[qd,J.1];kernel_rfl) ?_)|((with_reducible show wpList _ _ _ (Oper.mk none (Op.store 252 _ _) _ _ _ _::_) _ _);refine wpList_store_row rfl 252 _ _ rfl U (qg .u64 (qH (stZ false V o k))) rfl rfl 252 _ n0 (by rw[qd,J.1];kernel_rfl) (by rw[qd,J.1];rfl) qw ?_))
   exact Bp (zI rfl _ _ U 252 _ _ _ rfl (setRow_heap _ _ _ _ _ _ n0) Tryz.underlying252 rfl (by rw[qd,J.1];kernel_rfl)) rfl ⟨by rw[show((64:Int)*(k:Int))=(s:Int) from by have:=HS.out;omega];rfl,by first|exact below_setRow ag.out Nl _|(rw[X];exact below_setRow ag.out Nl _)⟩
  have bf:(s:Int)+64<o.length:=by have:=ac.2 ab;omega
  have ar:(s:Int)+64<9223372036854775808:=by omega
  have aR:=hid ar;clear ai O hn aw al af ac ap ar;go_wp2_with fail
  refine(Z2 s 64 (by omega) _).mono ?_;rintro e w4 ⟨rfl,hw⟩;rw[hw];clear hw;go_upto_region 8 with(fail)
  refine qA (n:=15) (w0:=wr) (B:=wr.heap.size) [.v 44 (.pointer (some ⟨I,0,none⟩)),.v 45 (.pointer (some ⟨I,0,none⟩)),.v 46 (.pointer (some ⟨I,0,none⟩)),.v 47 (.int .i64 2),.v 48 (.agg (qg .u64 (qH (stZ false V o k)))),.v 49 (.pointer (some ⟨I,0,none⟩)),.v 50 (.pointer (some ⟨I,0,none⟩)),.v 51 (.pointer (some ⟨I,33,none⟩)),.v 52 (.slice ma o.length mc),.v 53 (.int .i64 (s:Nat)),.v 54 (.int .i64 64),.p 55 (fun u W=>W.ownsRow wr.heap.size 5 1 u 64 ((Qv 64 ((o.drop s).take 64)).map qp)),.v 56 (.int .u64 ((s:Int)+64)),.v 57 (.int .u64 0),.v 58 (.agg (qg .u64 (qH (stZ false V o (k+1)))))] (by exact⟨(fun _ _ _ h O=>qi h (fun g _ hg=>O.block g hg)),trivial⟩) Br.drew Nl ?_ ?_
  ·repeat' (with_reducible first|exact qx|refine qt ?_ ?_)
   all_goals try
    intro A x W G S Y q D K hK;have a0:=G.2 0 (by decide);conv at a0=>rhs;whnf
    have a4:=G.2 10 (by decide);conv at a4=>rhs;whnf
    have a9:=G.2 9 (by decide);conv at a9=>rhs;whnf
    have a7:=G.2 7 (by decide);conv at a7=>rhs;whnf
    have a8:=G.2 8 (by decide);conv at a8=>rhs;whnf
    simp only[QJ,QS]at D;clear q G;go_simp
    exact hK _ _ BR rfl
   ·intro A x W G S Y q _ K hK;have bi:=gv G q 2 46;clear q G;have g0:=qe az.out S;have c0:W.cell? ⟨I,0,none⟩=some (.int .i64 2):=qa g0 0;go_simp
    exact hK _ _ BR rfl
   ·intro A x W G S Y q _ K hK;have a6:=G.2 6 (by decide);conv at a6=>rhs;whnf
    clear q G;have g0:=qe ak.out S;have J:=qX (by decide) ah.out;refine wp_load_row 252 _ rfl Z a6 _ _ _ _ g0 Tryz.underlying252 rfl (by rw[qd,J.1];kernel_rfl) (hK _ _ Br rfl)
   ·intro A x W G S Y q _ K hK;have bl:=gv G q 7 51;clear q G;have g0:=qe az.out S;have c0:W.cell? ⟨I,33,none⟩=some (.slice ma o.length mc):=qa g0 33;go_simp
    exact hK _ _ BR rfl
   ·intro A x W G S Y q _ K hK;have bt:=gv G q 8 52;have bw:=gv G q 9 53;have bu:=gv G q 10 54;clear q G;go_simp
    refine(Z1 o _ s 64 W (aU.out W (ag.out.trans (S.mono (by omega)))) (by decide) (by omega) a3).mono ?_;rintro e w' ⟨u,rfl,ho,O⟩;exact hK _ _ O (ownsRow_le ho Y)
   ·intro A x W G S Y q _ K hK;have bj:=gv G q 3 47;have bs:=gv G q 4 48;have aZ:(fun u W=>W.ownsRow wr.heap.size 5 1 u 64 ((Qv 64 ((o.drop s).take 64)).map qp)) (x 55) W:=q ⟨11,.data⟩ (by simp) rfl _ rfl;have bh:A.tmps.getD 55 undef=x 55:=G.1 55 (by decide);have bk:=gv G q 12 56;have bp:=gv G q 13 57;clear q G;have a5:=Q8 (n:=64) (zs:=(o.drop s).take 64) (fun z hz=>aY.out z (List.mem_of_mem_drop (List.mem_of_mem_take hz)));go_simp
    rw[show(s:Int)+64=((s+64:Nat):Int) from rfl];refine(JY (stZ false V o k) (Qv 64 ((o.drop s).take 64)) ah.out _ (s+64) aR.out false false W (QR aZ) a5 (QC (List.length_take_le _ _))).mono ?_;rintro e w' ⟨rfl,O⟩;rw[←ay.out];exact hK _ _ O rfl
  intro x W S Y aN;obtain⟨aC, -⟩:=aN;change (fun u W=>W.ownsRow wr.heap.size 5 1 u 64 ((Qv 64 ((o.drop s).take 64)).map qp)) (x 55) W at aC
  refine qo ?_;simp only[Qx,Act.put,Ls];have ax:=qe ak.out S;have J:=qX (by decide) (ao.out (k+1));have av:=qX (by decide) ah.out;refine wpList_store_row rfl 252 _ _ rfl Z (qg .u64 (qH (stZ false V o (k+1)))) rfl rfl 252 _ ax (by rw[qd,J.1];kernel_rfl) (by rw[qd,qd,J.1,av.1]) qw ?_;refine qs ?_;have HA:=hid (setRow_heap _ Z _ (qg .u64 (qH (stZ false V o (k+1)))) _ _ ax);have HC:=hid (aX.out.trans ((But.of_below S).trans (But.of_setRow _ Z (qg .u64 (qH (stZ false V o (k+1)))))));clear ax J av aC S Y aW bb aP;go_wp2
  refine⟨⟨k+1,by rw[aB.out];rfl,rfl,by rw[aB.out];rfl,by omega,HA.out,HC.out⟩,?_⟩;simp[intOf];omega
theorem Zd (n:Nat){h g:List Int}: ∀i,(∀j,j<i→wd h j=wd g j)→qJ n h i=qJ n g i
 | 0,_=>rfl
 | i+1,H=>by rw[qJ,qJ,Zd n i (fun j o=>H j (by omega)),H i (by omega)]
theorem qdk (v:Nat→Nat)(z1 z2 q:List Int)(sa pe kv mv:Value)(Y:Bool)(ab:Int)(I:Nat)(w:World)(hN:yO true w I v sa pe kv Y mv ab)(hP:ParOk true v)(h1:Hold w sa z1)(h2:Hold w pe z2)(aB:z1.length≤16)(aC:z2.length≤16)(hM:Hold w mv q)(av:(q.length:Int)≤281474976710656):
  Calls Tryz.prog 156 #[.pointer (some ⟨I,0,none⟩)] w fun e w'=> ∃u,e= .returned u∧w'.ownsRow w.heap.size 5 1 u 64 ((Y0 true (h0Z true (QI true v z1 z2)) q Y).map qp)∧Below w.heap.size w w':=by
 obtain⟨b0,ad⟩:=Ex w.heap.size;have ae:=qaI v z1 z2 q sa pe kv mv Y ab I w hN hP h1 h2 aB aC hM av;obtain⟨ma,mc,rfl,aE,aG⟩:=hM.slice;have aO:I<b0:=by rw[←ad];exact(Ai hN).1
 have ax:=fun(W:World) (V:Below b0 w W)=>hM.below (ad▸V)
 have ag:=QK true (QI true v z1 z2);generalize h0Z true (QI true v z1 z2)=H0 at*;have ac:=yD true ag q (nbk 128 q.length);have af:=yP (n:=128) (by decide) q.length;have al:Y0 true H0 q Y=qJ 8 (yk true (stZ true H0 q (nbk 128 q.length)) (Qv 128 ((q.drop (128*nbk 128 q.length)).take 128)) (q.length:Int) true Y) 8:=rfl;rw[al];obtain⟨ST,ak⟩:=Ex (stZ true H0 q (nbk 128 q.length));obtain⟨s,hs⟩:=Ex (128*nbk 128 q.length);rw[ak,hs]at ae⊢;rw[ak]at ac;rw[hs]at af;obtain⟨R,hR⟩:=Ex (yk true ST (Qv 128 ((q.drop s).take 128)) (q.length:Int) true Y);have am:Words 64 8 R:=by rw[←hR];exact QH true ac _ _ _ _
 rw[hR];have ay:qJ 8 R 8=qJ 8 (qH R) 8:=Zd 8 8 (fun j hj=>(qar am.1 hj).symm);rw[ay];have be:s≤q.length:=af.1;have au:w.heap[I]? =some (.cells (rN 1 v sa pe kv Y (.slice ma q.length mc) ab) 254 (0,0)):=hN;have aw:=hM.1;have aj:=hid ae;have aI:=hid ax;have ai:=hid ac;have aN:=hid hR;have aF:=hid am;have aJ:=hid au;have aH:=hid aw;clear al ay ak hs af hR am ae ax ac hN au aw ag hP h1 h2 hM aE aG aB aC;go_enter Tryz.func156,Tryz.ntmps156
 go_wp2_with fail
 refine aj.out.mono ?_;rintro e w2 ⟨rfl,aq⟩;have Z:=hid (qX (by decide) ai.out);have ah:=aq.size;have az:=hid aq;clear aq;go_upto_region 2 with((with_reducible show wpList _ _ _ (Oper.mk none (Op.store 252 _ _) _ _ _ _::_) _ _);refine wpList_store_row rfl 252 _ _ rfl w2.heap.size (qg .u64 (qH ST)) rfl rfl 252 _ (Wn _ _) (by rw[qd,Z.out.1];kernel_rfl) (by rw[qd,Z.out.1];rfl) qw ?_)
 refine qj ?_;intro U J;obtain⟨b3,ao⟩:=Ex w2.heap.size;have m3:U.heap[b3]? =some (.cells (qg .u64 (qH ST)) 252 (0,0)):=by rw[J,←ao];exact setRow_heap _ _ _ _ _ _ (Wn _ _)
 have aa:Below b0 w U:=by rw[J,←ad];exact below_setRow (az.out.alloc ah _) ah _
 have mn:U.heap[I]? =some (.cells (rN 1 v sa pe kv Y (.slice ma q.length mc) ab) 254 (0,0)):=(aa.block I aO).trans aJ.out;rw[ao];have aS:b0≤b3:=by omega
 have a9:b3<U.heap.size:=(Ai m3).1;have bk:I<U.heap.size:=by omega
 have aV:U.cell? ⟨I,33,none⟩=some (.slice ma q.length mc):=qa mn 33;have M3:=hid m3;have MN:=hid mn;have an:=hid aa;clear J ao m3 mn aa az ah aj;have ba:(s:Int)≤q.length:=by omega
 have ap:((q.length:Int) - s)=((q.length - s:Nat):Int):=by omega
 have aR:IntKind.u64.wrap ((q.length:Int) - s)=((q.length - s:Nat):Int):=by rw[ap];exact u64_wrap_id _ (by omega) (by omega)
 have a7:=hid ap;clear ap;go_wp2_with fail
 refine(Z2 s (q.length - s) (by omega) _).mono ?_;rintro e w4 ⟨rfl,hw⟩;rw[hw];clear hw;rw[show s+(q.length - s)=q.length by omega];clear aR;go_upto_region 3 with(fail)
 refine qA (n:=29) (w0:=U) (B:=U.heap.size) [.v 29 (.pointer (some ⟨I,0,none⟩)),.v 30 (.pointer (some ⟨I,0,none⟩)),.v 31 (.pointer (some ⟨I,0,none⟩)),.v 32 (.int .i64 1),.v 33 (.pointer (some ⟨I,0,none⟩)),.v 34 (.pointer (some ⟨I,0,none⟩)),.v 35 (.pointer (some ⟨I,0,none⟩)),.v 36 (.int .i64 1),.v 37 (.agg (qg .u64 (qH ST))),.v 38 (.pointer (some ⟨I,0,none⟩)),.v 39 (.pointer (some ⟨I,0,none⟩)),.v 40 (.pointer (some ⟨I,33,none⟩)),.v 41 (.slice ma q.length mc),.v 42 (.int .i64 (s:Nat)),.v 43 (.pointer (some ⟨I,0,none⟩)),.v 44 (.pointer (some ⟨I,0,none⟩)),.v 45 (.pointer (some ⟨I,0,none⟩)),.v 46 (.int .i64 1),.v 47 (.int .i64 128),.p 48 (fun u W=>W.ownsRow U.heap.size 5 1 u 128 ((Qv 128 ((q.drop s).take 128)).map qp)),.v 49 (.int .u64 (q.length:Nat)),.v 50 (.int .u64 0),.v 51 (.pointer (some ⟨I,0,none⟩)),.v 52 (.pointer (some ⟨I,0,none⟩)),.v 53 (.pointer (some ⟨I,13,none⟩)),.v 54 (.bool Y),.v 55 (.agg (qg .u64 (qH R))),.p 56 (fun u W=>W.ownsRow U.heap.size 5 1 u 64 ((qJ 8 (qH R) 8).map qp)),.p 2 (fun u W=>W.ownsRow U.heap.size 5 1 u 64 ((qJ 8 (qH R) 8).map qp))] (by exact⟨(fun _ _ _ h V=>qi h (fun g _ hg=>V.block g hg)),(fun _ _ _ h V=>qi h (fun g _ hg=>V.block g hg)),(fun _ _ _ h V=>qi h (fun g _ hg=>V.block g hg)),trivial⟩) Br.drew Nl ?_ ?_
 ·repeat' (with_reducible first|exact qx|refine qt ?_ ?_)
  all_goals try
   intro A x W G J S o D K O;have a0:=G.2 0 (by decide);conv at a0=>rhs;whnf
   have a6:=G.2 6 (by decide);conv at a6=>rhs;whnf
   have a4:=G.2 4 (by decide);conv at a4=>rhs;whnf
   have a5:=G.2 5 (by decide);conv at a5=>rhs;whnf
   simp only[QJ,QS]at D;clear o G;go_simp
   exact O _ _ BR rfl
  ·intro A x W G J S o _ K O;have bi:=gv G o 2 31;clear o G;have X:=qe MN.out J;have c0:W.cell? ⟨I,0,none⟩=some (.int .i64 1):=qa X 0;go_simp
   exact O _ _ BR rfl
  ·intro A x W G J S o _ K O;have aX:=gv G o 6 35;clear o G;have X:=qe MN.out J;have c0:W.cell? ⟨I,0,none⟩=some (.int .i64 1):=qa X 0;go_simp
   exact O _ _ BR rfl
  ·intro A x W G J S o _ K O;have a3:=G.2 3 (by decide);conv at a3=>rhs;whnf
   clear o G;have X:=qe M3.out J;refine wp_load_row 252 _ rfl b3 a3 _ _ _ _ X Tryz.underlying252 rfl (by rw[qd,Z.out.1];kernel_rfl) (O _ _ Br rfl)
  ·intro A x W G J S o _ K O;have bg:=gv G o 11 40;clear o G;have X:=qe MN.out J;have c0:W.cell? ⟨I,33,none⟩=some (.slice ma q.length mc):=qa X 33;go_simp
   exact O _ _ BR rfl
  ·intro A x W G J S o _ K O;have bd:=gv G o 16 45;clear o G;have X:=qe MN.out J;have c0:W.cell? ⟨I,0,none⟩=some (.int .i64 1):=qa X 0;go_simp
   exact O _ _ BR rfl
  ·intro A x W G J S o _ K O;have aT:=gv G o 17 46;clear o G;go_simp
   refine(YG true _).mono ?_;rintro e w' ⟨rfl,hw⟩;exact O _ _ (by rw[hw];exact Below.refl _ _) rfl
  ·intro A x W G J S o _ K O;have bc:=gv G o 12 41;have aU:=gv G o 13 42;have aW:=gv G o 18 47;clear o G;go_simp
   refine(Z1 q _ s 128 W (aI.out W (an.out.trans (J.mono (by omega)))) (by decide) (by omega) av).mono ?_;rintro e w' ⟨u,rfl,ho,V⟩;exact O _ _ V (ownsRow_le ho S)
  ·intro A x W G J S o _ K O;have bm:=gv G o 24 53;clear o G;have X:=qe MN.out J;have c0:W.cell? ⟨I,13,none⟩=some (.bool Y):=qa X 13;go_simp
   exact O _ _ BR rfl
  ·intro A x W G J S o _ K O;have aY:=gv G o 7 36;have bl:=gv G o 8 37;have aP:(fun u W=>W.ownsRow U.heap.size 5 1 u 128 ((Qv 128 ((q.drop s).take 128)).map qp)) (x 48) W:=o ⟨19,.data⟩ (by simp) rfl _ rfl;have bh:A.tmps.getD 48 undef=x 48:=G.1 48 (by decide);have a8:=gv G o 20 49;have bj:=gv G o 21 50;have bf:=gv G o 25 54;clear o G;have aQ:=Q8 (n:=128) (zs:=(q.drop s).take 128) (fun z hz=>aH.out z (List.mem_of_mem_drop (List.mem_of_mem_take hz)));go_simp
   refine(qaK ST (Qv 128 ((q.drop s).take 128)) ai.out _ q.length (by omega) true Y W (QR aP) aQ (QC (List.length_take_le _ _))).mono ?_;rintro e w' ⟨rfl,V⟩;rw[aN.out];exact O _ _ V rfl
  ·intro A x W G J S o _ K O;have bb:=gv G o 3 32;have aZ:=gv G o 26 55;clear o G;go_simp
   refine(J0 true (qH R) (qX (by decide) aF.out) _).mono ?_;rintro e w' ⟨u,rfl,ho,V⟩;exact O _ _ V (ownsRow_le ho S)
  ·intro A x W G J S o _ K O;have aL:(fun u W=>W.ownsRow U.heap.size 5 1 u 64 ((qJ 8 (qH R) 8).map qp)) (x 56) W:=o ⟨27,.data⟩ (by simp) rfl _ rfl;have aM:A.tmps.getD 56 undef=x 56:=G.1 56 (by decide);clear o G;go_simp
   exact O _ _ Br (aM▸aL)
 intro x W J S aD;obtain⟨ar,aA,e2, -⟩:=aD;change (fun u W=>W.ownsRow U.heap.size 5 1 u 128 ((Qv 128 ((q.drop s).take 128)).map qp)) (x 48) W at ar
 change (fun u W=>W.ownsRow U.heap.size 5 1 u 64 ((qJ 8 (qH R) 8).map qp)) (x 56) W at aA
 change (fun u W=>W.ownsRow U.heap.size 5 1 u 64 ((qJ 8 (qH R) 8).map qp)) (x 2) W at e2
 refine qs ?_;simp only[Qx,Act.put,Ls];have E2:=hid (ownsRow_le e2 (show w.heap.size≤U.heap.size by omega));have aK:=hid (an.out.trans (J.mono (by omega)));clear ar aA e2 J S;go_wp2
 go_ret
 exact⟨_,rfl,E2.out,by rw[ad];exact aK.out⟩
theorem qcr (v:Nat→Nat)(z1 z2 q:List Int)(sa pe kv mv:Value)(Y:Bool)(ab:Int)(I:Nat)(w:World)(hN:yO false w I v sa pe kv Y mv ab)(hP:ParOk false v)(h1:Hold w sa z1)(h2:Hold w pe z2)(aB:z1.length≤8)(aC:z2.length≤8)(hM:Hold w mv q)(av:(q.length:Int)≤281474976710656):
  Calls Tryz.prog 156 #[.pointer (some ⟨I,0,none⟩)] w fun e w'=> ∃u,e= .returned u∧w'.ownsRow w.heap.size 5 1 u 32 ((Y0 false (h0Z false (QI false v z1 z2)) q Y).map qp)∧Below w.heap.size w w':=by
 obtain⟨b0,ad⟩:=Ex w.heap.size;have ae:=qak v z1 z2 q sa pe kv mv Y ab I w hN hP h1 h2 aB aC hM av;obtain⟨ma,mc,rfl,aE,aG⟩:=hM.slice;have aO:I<b0:=by rw[←ad];exact(Ai hN).1
 have ax:=fun(W:World) (V:Below b0 w W)=>hM.below (ad▸V)
 have ag:=QK false (QI false v z1 z2);generalize h0Z false (QI false v z1 z2)=H0 at*;have ac:=yD false ag q (nbk 64 q.length);have af:=yP (n:=64) (by decide) q.length;have al:Y0 false H0 q Y=qJ 4 (yk false (stZ false H0 q (nbk 64 q.length)) (Qv 64 ((q.drop (64*nbk 64 q.length)).take 64)) (q.length:Int) true Y) 8:=rfl;rw[al];obtain⟨ST,ak⟩:=Ex (stZ false H0 q (nbk 64 q.length));obtain⟨s,hs⟩:=Ex (64*nbk 64 q.length);rw[ak,hs]at ae⊢;rw[ak]at ac;rw[hs]at af;obtain⟨R,hR⟩:=Ex (yk false ST (Qv 64 ((q.drop s).take 64)) (q.length:Int) true Y);have am:Words 32 8 R:=by rw[←hR];exact QH false ac _ _ _ _
 rw[hR];have ay:qJ 4 R 8=qJ 4 (qH R) 8:=Zd 4 8 (fun j hj=>(qar am.1 hj).symm);rw[ay];have be:s≤q.length:=af.1;have au:w.heap[I]? =some (.cells (rN 2 v sa pe kv Y (.slice ma q.length mc) ab) 254 (0,0)):=hN;have aw:=hM.1;have aj:=hid ae;have aI:=hid ax;have ai:=hid ac;have aN:=hid hR;have aF:=hid am;have aJ:=hid au;have aH:=hid aw;clear al ay ak hs af hR am ae ax ac hN au aw ag hP h1 h2 hM aE aG aB aC;go_enter Tryz.func156,Tryz.ntmps156
 go_wp2_with fail
 refine aj.out.mono ?_;rintro e w2 ⟨rfl,aq⟩;have Z:=hid (qX (by decide) ai.out);have ah:=aq.size;have az:=hid aq;clear aq;go_upto_region 2 with((with_reducible show wpList _ _ _ (Oper.mk none (Op.store 252 _ _) _ _ _ _::_) _ _);refine wpList_store_row rfl 252 _ _ rfl w2.heap.size (qg .u64 (qH ST)) rfl rfl 252 _ (Wn _ _) (by rw[qd,Z.out.1];kernel_rfl) (by rw[qd,Z.out.1];rfl) qw ?_)
 refine qj ?_;intro U J;obtain⟨b3,ao⟩:=Ex w2.heap.size;have m3:U.heap[b3]? =some (.cells (qg .u64 (qH ST)) 252 (0,0)):=by rw[J,←ao];exact setRow_heap _ _ _ _ _ _ (Wn _ _)
 have aa:Below b0 w U:=by rw[J,←ad];exact below_setRow (az.out.alloc ah _) ah _
 have mn:U.heap[I]? =some (.cells (rN 2 v sa pe kv Y (.slice ma q.length mc) ab) 254 (0,0)):=(aa.block I aO).trans aJ.out;rw[ao];have aS:b0≤b3:=by omega
 have a9:b3<U.heap.size:=(Ai m3).1;have bk:I<U.heap.size:=by omega
 have aV:U.cell? ⟨I,33,none⟩=some (.slice ma q.length mc):=qa mn 33;have M3:=hid m3;have MN:=hid mn;have an:=hid aa;clear J ao m3 mn aa az ah aj;have ba:(s:Int)≤q.length:=by omega
 have ap:((q.length:Int) - s)=((q.length - s:Nat):Int):=by omega
 have aR:IntKind.u64.wrap ((q.length:Int) - s)=((q.length - s:Nat):Int):=by rw[ap];exact u64_wrap_id _ (by omega) (by omega)
 have a7:=hid ap;clear ap;go_wp2_with fail
 refine(Z2 s (q.length - s) (by omega) _).mono ?_;rintro e w4 ⟨rfl,hw⟩;rw[hw];clear hw;rw[show s+(q.length - s)=q.length by omega];clear aR;go_upto_region 3 with(fail)
 refine qA (n:=29) (w0:=U) (B:=U.heap.size) [.v 29 (.pointer (some ⟨I,0,none⟩)),.v 30 (.pointer (some ⟨I,0,none⟩)),.v 31 (.pointer (some ⟨I,0,none⟩)),.v 32 (.int .i64 2),.v 33 (.pointer (some ⟨I,0,none⟩)),.v 34 (.pointer (some ⟨I,0,none⟩)),.v 35 (.pointer (some ⟨I,0,none⟩)),.v 36 (.int .i64 2),.v 37 (.agg (qg .u64 (qH ST))),.v 38 (.pointer (some ⟨I,0,none⟩)),.v 39 (.pointer (some ⟨I,0,none⟩)),.v 40 (.pointer (some ⟨I,33,none⟩)),.v 41 (.slice ma q.length mc),.v 42 (.int .i64 (s:Nat)),.v 43 (.pointer (some ⟨I,0,none⟩)),.v 44 (.pointer (some ⟨I,0,none⟩)),.v 45 (.pointer (some ⟨I,0,none⟩)),.v 46 (.int .i64 2),.v 47 (.int .i64 64),.p 48 (fun u W=>W.ownsRow U.heap.size 5 1 u 64 ((Qv 64 ((q.drop s).take 64)).map qp)),.v 49 (.int .u64 (q.length:Nat)),.v 50 (.int .u64 0),.v 51 (.pointer (some ⟨I,0,none⟩)),.v 52 (.pointer (some ⟨I,0,none⟩)),.v 53 (.pointer (some ⟨I,13,none⟩)),.v 54 (.bool Y),.v 55 (.agg (qg .u64 (qH R))),.p 56 (fun u W=>W.ownsRow U.heap.size 5 1 u 32 ((qJ 4 (qH R) 8).map qp)),.p 2 (fun u W=>W.ownsRow U.heap.size 5 1 u 32 ((qJ 4 (qH R) 8).map qp))] (by exact⟨(fun _ _ _ h V=>qi h (fun g _ hg=>V.block g hg)),(fun _ _ _ h V=>qi h (fun g _ hg=>V.block g hg)),(fun _ _ _ h V=>qi h (fun g _ hg=>V.block g hg)),trivial⟩) Br.drew Nl ?_ ?_
 ·repeat' (with_reducible first|exact qx|refine qt ?_ ?_)
  all_goals try
   intro A x W G J S o D K O;have a0:=G.2 0 (by decide);conv at a0=>rhs;whnf
   have a6:=G.2 6 (by decide);conv at a6=>rhs;whnf
   have a4:=G.2 4 (by decide);conv at a4=>rhs;whnf
   have a5:=G.2 5 (by decide);conv at a5=>rhs;whnf
   simp only[QJ,QS]at D;clear o G;go_simp
   exact O _ _ BR rfl
  ·intro A x W G J S o _ K O;have bi:=gv G o 2 31;clear o G;have X:=qe MN.out J;have c0:W.cell? ⟨I,0,none⟩=some (.int .i64 2):=qa X 0;go_simp
   exact O _ _ BR rfl
  ·intro A x W G J S o _ K O;have aX:=gv G o 6 35;clear o G;have X:=qe MN.out J;have c0:W.cell? ⟨I,0,none⟩=some (.int .i64 2):=qa X 0;go_simp
   exact O _ _ BR rfl
  ·intro A x W G J S o _ K O;have a3:=G.2 3 (by decide);conv at a3=>rhs;whnf
   clear o G;have X:=qe M3.out J;refine wp_load_row 252 _ rfl b3 a3 _ _ _ _ X Tryz.underlying252 rfl (by rw[qd,Z.out.1];kernel_rfl) (O _ _ Br rfl)
  ·intro A x W G J S o _ K O;have bg:=gv G o 11 40;clear o G;have X:=qe MN.out J;have c0:W.cell? ⟨I,33,none⟩=some (.slice ma q.length mc):=qa X 33;go_simp
   exact O _ _ BR rfl
  ·intro A x W G J S o _ K O;have bd:=gv G o 16 45;clear o G;have X:=qe MN.out J;have c0:W.cell? ⟨I,0,none⟩=some (.int .i64 2):=qa X 0;go_simp
   exact O _ _ BR rfl
  ·intro A x W G J S o _ K O;have aT:=gv G o 17 46;clear o G;go_simp
   refine(YG false _).mono ?_;rintro e w' ⟨rfl,hw⟩;exact O _ _ (by rw[hw];exact Below.refl _ _) rfl
  ·intro A x W G J S o _ K O;have bc:=gv G o 12 41;have aU:=gv G o 13 42;have aW:=gv G o 18 47;clear o G;go_simp
   refine(Z1 q _ s 64 W (aI.out W (an.out.trans (J.mono (by omega)))) (by decide) (by omega) av).mono ?_;rintro e w' ⟨u,rfl,ho,V⟩;exact O _ _ V (ownsRow_le ho S)
  ·intro A x W G J S o _ K O;have bm:=gv G o 24 53;clear o G;have X:=qe MN.out J;have c0:W.cell? ⟨I,13,none⟩=some (.bool Y):=qa X 13;go_simp
   exact O _ _ BR rfl
  ·intro A x W G J S o _ K O;have aY:=gv G o 7 36;have bl:=gv G o 8 37;have aP:(fun u W=>W.ownsRow U.heap.size 5 1 u 64 ((Qv 64 ((q.drop s).take 64)).map qp)) (x 48) W:=o ⟨19,.data⟩ (by simp) rfl _ rfl;have bh:A.tmps.getD 48 undef=x 48:=G.1 48 (by decide);have a8:=gv G o 20 49;have bj:=gv G o 21 50;have bf:=gv G o 25 54;clear o G;have aQ:=Q8 (n:=64) (zs:=(q.drop s).take 64) (fun z hz=>aH.out z (List.mem_of_mem_drop (List.mem_of_mem_take hz)));go_simp
   refine(JY ST (Qv 64 ((q.drop s).take 64)) ai.out _ q.length (by omega) true Y W (QR aP) aQ (QC (List.length_take_le _ _))).mono ?_;rintro e w' ⟨rfl,V⟩;rw[aN.out];exact O _ _ V rfl
  ·intro A x W G J S o _ K O;have bb:=gv G o 3 32;have aZ:=gv G o 26 55;clear o G;go_simp
   refine(J0 false (qH R) (qX (by decide) aF.out) _).mono ?_;rintro e w' ⟨u,rfl,ho,V⟩;exact O _ _ V (ownsRow_le ho S)
  ·intro A x W G J S o _ K O;have aL:(fun u W=>W.ownsRow U.heap.size 5 1 u 32 ((qJ 4 (qH R) 8).map qp)) (x 56) W:=o ⟨27,.data⟩ (by simp) rfl _ rfl;have aM:A.tmps.getD 56 undef=x 56:=G.1 56 (by decide);clear o G;go_simp
   exact O _ _ Br (aM▸aL)
 intro x W J S aD;obtain⟨ar,aA,e2, -⟩:=aD;change (fun u W=>W.ownsRow U.heap.size 5 1 u 64 ((Qv 64 ((q.drop s).take 64)).map qp)) (x 48) W at ar
 change (fun u W=>W.ownsRow U.heap.size 5 1 u 32 ((qJ 4 (qH R) 8).map qp)) (x 56) W at aA
 change (fun u W=>W.ownsRow U.heap.size 5 1 u 32 ((qJ 4 (qH R) 8).map qp)) (x 2) W at e2
 refine qs ?_;simp only[Qx,Act.put,Ls];have E2:=hid (ownsRow_le e2 (show w.heap.size≤U.heap.size by omega));have aK:=hid (an.out.trans (J.mono (by omega)));clear ar aA e2 J S;go_wp2
 go_ret
 exact⟨_,rfl,E2.out,by rw[ad];exact aK.out⟩
theorem qgy (big:Bool)(zs:List Int):(Yv big zs).length≤sB big:=by
 unfold Yv yI;simp only[List.length_take];omega
theorem qgO (big:Bool)(zs:List Int):(YH big zs).length≤sB big:=by
 unfold YH yI;simp only[List.length_take];omega
theorem qch {big:Bool}{zs:List Int}(o: ∀z∈zs,0≤z∧z≤255): ∀z∈Yv big zs,0≤z∧z≤255:=fun z h=>o z (List.mem_of_mem_drop (List.mem_of_mem_take (List.mem_of_mem_take h)))
theorem qcy {big:Bool}{zs:List Int}(o: ∀z∈zs,0≤z∧z≤255): ∀z∈YH big zs,0≤z∧z≤255:=fun z h=>o z (List.mem_of_mem_drop (List.mem_of_mem_take (List.mem_of_mem_take h)))
theorem qf0 {big:Bool}{zs:List Int}(O: ∀z∈zs,0≤z∧z≤255)(h:okD big false zs):ParOk big (Ye big false zs):=by
 obtain⟨I,hm,hx,k1,k2,V,k9⟩:=h;have H:=fun f q o=>qO (big:=big) (ext:=false) O I (f:=f) q o
 have S: ∀f,1≤f→f≤9→((Ye big false zs f:Nat):Int)≤QZ big false zs f:=fun f q o=>by
  have:=H f q o
  unfold Ye;split<;>omega
 have e:=fun f q o G=>Jk (big:=big) (ext:=false) O I (f:=f) q o G
 have e1:=e 1 (by omega) (by omega) (by omega);have e2:=e 2 (by omega) (by omega) (by omega);have e4:=e 4 (by omega) (by omega) (by omega);have Y:=e 9 (by omega) (by omega) (by omega);have s1:Qa zs (atB big 1) (szE big false 1)=qn zs 0:=by cases big<;>simp[szE,szB,atB,YP]
 have s2:Qa zs (atB big 2) (szE big false 2)=qn zs 1:=by cases big<;>simp[szE,szB,atB,YP]
 have s4:Qa zs (atB big 4) (szE big false 4)=qn zs 3:=by cases big<;>simp[szE,szB,atB,YP]
 have Z:Qa zs (atB big 9) (szE big false 9)=qn zs (atB big 9):=by cases big<;>simp[szE,szB,atB,YP]
 have B: ∀f n,1≤f→f≤9→szE big false f≤n→((Ye big false zs f:Nat):Int)<2^(8*n):=fun f n D J X=>by
  have q:=(H f D J).2;have o:=S f D J;have G:(2:Int)^(8*szE big false f)≤2^(8*n):=by exact_mod_cast Nat.pow_le_pow_right (by decide:0<2) (Nat.mul_le_mul_left 8 X)
  omega
 refine⟨⟨?_,?_,⟨by omega,?_⟩,⟨?_,?_⟩,⟨by omega,fun U=>?_⟩,⟨by omega,?_⟩,?_⟩,?_,?_,rfl⟩
 ·rw[e1,s1];exact k1
 ·rw[e2,s2];exact k2
 ·have:=B 3 1 (by omega) (by omega) (by cases big<;>decide);omega
 ·rw[e4,s4];exact V rfl
 ·have:=B 4 1 (by omega) (by omega) (by cases big<;>decide);omega
 ·have:=B 6 6 (by omega) (by omega) (by subst U;decide);omega
 ·have:=B 8 1 (by omega) (by omega) (by cases big<;>decide);omega
 ·rw[Y,Z];exact k9
 ·have:=B 5 4 (by omega) (by omega) (by cases big<;>decide);omega
 ·have:=B 6 8 (by omega) (by omega) (by cases big<;>decide);omega
theorem qex (big:Bool)(v:Nat→Nat)(z1 z2 o:List Int)(G I X O:Value)(D:Bool)(q:Int)(J:Nat)(w:World)(hN:yO big w J v G I X D O q)(hP:ParOk big v)(h1:Hold w G z1)(Y:Hold w I z2)(V:z1.length≤sB big)(U:z2.length≤sB big)(Z:Hold w O o)(S:(o.length:Int)≤281474976710656):
  Calls Tryz.prog 156 #[.pointer (some ⟨J,0,none⟩)] w fun e w'=> ∃u,e= .returned u∧w'.ownsRow w.heap.size 5 1 u (mB big) ((Y0 big (h0Z big (QI big v z1 z2)) o D).map qp)∧Below w.heap.size w w':=by
 cases big
 ·exact qcr v z1 z2 o G I X O D q J w hN hP h1 Y V U Z S
 ·exact qdk v z1 z2 o G I X O D q J w hN hP h1 Y V U Z S
def qhv (big:Bool)(v:Nat→Nat)(z1 z2 kz:List Int)(la:Bool)(o:Int)(ds:List Int)(w:World)(e:Ending)(w':World):Prop:=
 (∃u,e= .returned (.tuple #[u,.int .i64 0])∧Fresh w.heap.size w' u ((Y0 big (h0Z big (QI big v z1 z2)) (yf (bB big) kz++ds) la).take o.toNat))∧Below w.heap.size w w'
theorem qeV {base g c m:Nat}{W:World}{zs:List Int}(h:W.ownsRow base 5 1 (.slice (some ⟨g,0,none⟩) zs.length c) zs.length (zs.map qp))(q:m≤zs.length):Fresh base W (.slice (some ⟨g,0,none⟩) m c) (zs.take m):=by
 obtain⟨o,D,J,I,G,S,O⟩:=zg h;have e:(zs.take m).length=m:=by simp[List.length_take,Nat.min_eq_left q]
 refine .inr ⟨g,c,o,by rw[e],G,D,by omega,by omega,by omega,?_⟩;rw[e,List.map_take,←I,List.take_take,Nat.min_eq_left q]
theorem qho (big:Bool):mB big≤bB big∧bB big≤128:=by cases big<;>decide
theorem qez (big:Bool)(v:Nat→Nat)(z1 z2 kz ds:List Int)(D:Bool)(o:Int)(sa pe kv dv:Value)(w:World)(hP:ParOk big v)(h1:Hold w sa z1)(h2:Hold w pe z2)(aA:z1.length≤sB big)(aE:z2.length≤sB big)(hK:Hold w kv kz)(am:kz.length≤mB big)(hk:kz.length=0∨kz.length=v 2)(hD:Hold w dv ds)(ax:(ds.length:Int)≤140737488355200)(ai: ¬(o<1∨(mB big:Nat)<o)):
  Calls Tryz.prog 121 #[.int .i64 (kB big),parN v sa pe,kv,.bool D,.int .i64 o,dv] w fun e w'=>qhv big v z1 z2 kz D o ds w e w':=by
 obtain⟨O,I⟩:=Ex w.heap.size;obtain⟨a1,c1,rfl,aJ,aP⟩:=h1.slice;obtain⟨a2,c2,rfl,aM,aL⟩:=h2.slice;have ab:Below O w (w.alloc (.cells #[.int .i64 (v 1:Nat),.int .i64 (v 2:Nat),.int .i64 (v 3:Nat),.int .i64 (v 4:Nat),.int .u32 (v 5:Nat),.int .u64 (v 6:Nat),.int .u32 (v 7:Nat),.int .i64 (v 8:Nat),.int .i64 (v 9:Nat),.slice a1 z1.length c1,.slice a2 z2.length c2] 171)):=by rw[←I];exact Br.alloc Nl _
 have X:=Wn w (.cells #[.int .i64 (v 1:Nat),.int .i64 (v 2:Nat),.int .i64 (v 3:Nat),.int .i64 (v 4:Nat),.int .u32 (v 5:Nat),.int .u64 (v 6:Nat),.int .u32 (v 7:Nat),.int .i64 (v 8:Nat),.int .i64 (v 9:Nat),.slice a1 z1.length c1,.slice a2 z2.length c2] 171);rw[I]at X;have aI:=(Ai X).1;have an:=hid hP;have aS:=hid h1;have a3:=hid h2;have az:=hid hK;have V:=hid hD;have ae:=hid am;have aK:=hid hk;have ag:=hid ax;have aj:=hid aA;have af:=hid aE;clear hP h1 h2 aA aE hK am hk hD ax aJ aP aM aL;unfold parN yK;go_enter Tryz.func121,Tryz.ntmps121
 go_upto_region 1 with(fail)
 generalize w.alloc (.cells #[.int .i64 (v 1:Nat),.int .i64 (v 2:Nat),.int .i64 (v 3:Nat),.int .i64 (v 4:Nat),.int .u32 (v 5:Nat),.int .u64 (v 6:Nat),.int .u32 (v 7:Nat),.int .i64 (v 8:Nat),.int .i64 (v 9:Nat),.slice a1 z1.length c1,.slice a2 z2.length c2] 171)=wA at*;go_wp2_with ((with_reducible show wpList _ _ _ (Oper.mk _ (Op.load 171 _) _ _ _ _::_) _ _);refine wpList_load_row rfl 171 _ rfl O rfl _ _ _ _ X Tryz.underlying171 rfl (by kernel_rfl) ?_)
 refine(qfS big v a1 a2 z1.length z2.length c1 c2 kz kv wA an.out aj.out af.out (az.out.below (I▸ab)) ae.out aK.out).mono ?_;rintro e w1 ⟨q,mv,rfl,aX,hN,hO,aa⟩;have a9:=aa.size;have aC:Below O w w1:=ab.trans (aa.mono (by omega));have ba:q<w1.heap.size:=(Ai hN).1;have aH: ∀g,mv.ownBlock=some g→O<g:=fun g hg=>by have:=qaU hO hg;omega
 have aD:=Z6 hO;have HN:=hid hN;have aw:=hid aD;have au:=hid aC;have aF:=hid aH;have bb:O<q:=by omega
 clear hN hO aa aC aH aD X ab aI a9 aX wA;have ac:=hid ai;have aQ:decide (o<1)=false:=decide_eq_false (by omega);have a4:decide ((mB big:Int)<o)=false:=decide_eq_false (by omega);clear ai;have a5:w1.cell? ⟨q,13,none⟩=some (.bool false):=qa HN.out 13;have aY:=frozen_of_row w1 q 13 _ _ HN.out;go_wp2_with fail
 refine(qaM big _).mono ?_;rintro r Z ⟨rfl,hw⟩;obtain rfl:=hw;go_upto_region 7 with(fail)
 have U:But q Z (Z.setCell ⟨q,13,none⟩ (.bool D)):=(But.refl q Z).set 13 _;have ak:=hid (show yO big (Z.setCell ⟨q,13,none⟩ (.bool D)) q v (.slice a1 z1.length c1) (.slice a2 z2.length c2) kv D mv 0 from qeC HN.out);have ao:=hid (yS aw.out U HN.out (by decide));have Y:=hid (show Below O w (Z.setCell ⟨q,13,none⟩ (.bool D)) from au.out.trans (U.below (by omega) (by omega)));obtain⟨m,hm⟩: ∃m:Nat,o=(m:Int):=⟨o.toNat,by have:=ac.out;omega⟩;subst hm;have J:m≤mB big:=by have:=ac.out;omega
 have a7:=hid J;clear HN aw au U a5 aY aQ a4 J;generalize (Z.setCell ⟨q,13,none⟩ (.bool D))=W4 at*;go_wp2_with fail
 have aU:=YI (n:=bB big) (key:=kz) (by have:=qho big;have:=ae.out;omega);have ah:((yf (bB big) kz++ds).length:Int)≤281474976710656:=by have:=qho big;have:=ag.out;rw[List.length_append];omega
 have aG: ∀z∈yf (bB big) kz++ds,0≤z∧z≤255:=fun z hz=>by
  rcases List.mem_append.1 hz with hz|hz
  ·exact YJ az.out.1 z hz
  ·exact V.out.1 z hz
 have aO:=hid ah;have aT:=hid aG;refine(qcm big v (yf (bB big) kz) ds (.slice a1 z1.length c1) (.slice a2 z2.length c2) kv mv dv D 0 q W4 ak.out ao.out (V.out.below (I▸Y.out)) (fun al b hb=>⟨fun e=>by have:=Yo V.out al hb;omega,fun e=>by have:=Yo V.out al hb;have:=aF.out b e;omega⟩) (by have:=qho big;have:=ag.out;omega)).mono ?_;rintro e w5 ⟨rfl,⟨aR,aN,ar,aB⟩,av⟩;clear aU ah aG;have S:=hid (show Below O w w5 from Y.out.trans (av.below (by have:=Y.out.size;omega) (fun k hk=>⟨by omega,fun e=>by have:=aF.out k e;omega⟩)));have a8:=hid ar;have aW:=hid aB;clear ar aB av ak ao Y;go_wp2_with fail
 refine(qex big v z1 z2 (yf (bB big) kz++ds) (.slice a1 z1.length c1) (.slice a2 z2.length c2) kv aR D aN q w5 a8.out an.out (aS.out.below (I▸S.out)) (a3.out.below (I▸S.out)) aj.out af.out (Qn aW.out aT.out) aO.out).mono ?_;rintro e w6 ⟨u,rfl,G,aq⟩;have a6:=hid (show Below O w w6 from S.out.trans (aq.mono (by have:=S.out.size;omega)));have ap:w.heap.size≤w5.heap.size:=S.out.size;obtain⟨u1,u2,u3,rfl⟩:=qu G;obtain rfl:u2=mB big:=yF G;obtain⟨gg,rfl⟩:=ZG (Z6 G) (by cases big<;>decide);obtain⟨cu, -, -, -, -,bc,aV⟩:=zg G;have ad:(Y0 big (h0Z big (QI big v z1 z2)) (yf (bB big) kz++ds) D).length=mB big:=by have:=G.1;simpa using this
 have be:(u3:Int)≤9223372036854775807:=by unfold maxLen at aV;omega
 have J:=a7.out;have bd:(m:Int)≤u3:=by omega
 have bf:(mB big:Int)≤(u3:Int):=by omega
 have ay:=(qeV (m:=m) (zs:=Y0 big (h0Z big (QI big v z1 z2)) (yf (bB big) kz++ds) D) (c:=u3) (by rw[ad];exact G) (by rw[ad];exact J)).le ap;have aZ:=hid ay;clear ay G aq ad ap J;go_wp2_with fail
 go_ret2
 exact⟨⟨_,rfl,aZ.out⟩,by rw[I];exact a6.out⟩
theorem qdN {big ext:Bool}{zs:List Int}(o: ∀z∈zs,0≤z∧z≤255)(q:zs.length=mB big):((Ye big ext zs 2:Nat):Int)=qn zs 1:=by
 rw[Jk (big:=big) (ext:=ext) o q (f:=2) (by omega) (by omega) (by omega)]
 cases big<;>cases ext<;>simp[szE,szB,atB,YP]
theorem qhS {big ext:Bool}{o kz:List Int}(D: ∀z∈o,0≤z∧z≤255)(G:o.length=mB big)(q:yX o kz=false):kz.length=0∨kz.length=Ye big ext o 2:=by
 have J:=qdN (ext:=ext) D G;unfold yX at q;have I:=of_decide_eq_false q;omega
theorem qdQ {big:Bool}{q kz ds:List Int}{I:Bool}{o:Int}{w w0:World}{e:Ending}{w':World}(O: ∀z∈q,0≤z∧z≤255)(J:okD big false q)(D:Below w0.heap.size w0 w)(h:qhv big (Ye big false q) (Yv big q) (YH big q) kz I o ds w e w'):
  ∃u,e= .returned (.tuple #[u,.int .i64 0])∧qbj big q kz I o ds w0 (.returned (.tuple #[u,.int .i64 0])) w':=by
 obtain⟨⟨u,rfl,h⟩,G⟩:=h;rw[qhn O J]at h;exact⟨u,rfl,⟨u,rfl,h.le D.size⟩,D.trans (G.mono D.size)⟩
theorem qeA (big:Bool)(D kz ds:List Int)(J:Bool)(o:Int)(S kv O:Value)(w:World)(hB:Hold w S D)(hK:Hold w kv kz)(hD:Hold w O ds)(au:(ds.length:Int)≤140737488355200)(aB:okD big false D)(ae:yX D kz=false)(ho: ¬(o<1∨(mB big:Nat)<o)):
  Calls Tryz.prog 85 #[.agg (ZQ (kB big) S kv J o O)] w fun e w'=>qbj big D kz J o ds w e w':=by
 obtain⟨G,U⟩:=Ex w.heap.size;obtain⟨X,V,rfl,aF,aG⟩:=hK.slice;have ab:Below G w (w.alloc (.cells #[.int .i64 (kB big),S,.slice X kz.length V,.bool J,.int .i64 o,O] 73)):=by rw[←U];exact Br.alloc Nl _
 have I:=Wn w (.cells #[.int .i64 (kB big),S,.slice X kz.length V,.bool J,.int .i64 o,O] 73);rw[U]at I;have ac:=(Ai I).1;have hq:((kB big != 1)&&(kB big != 2))=false:=by cases big<;>rfl
 obtain⟨q0,aj⟩: ∃q,(kB big != 1)=q:=⟨_,rfl⟩;obtain⟨q1,ax⟩: ∃q,(kB big != 2)=q:=⟨_,rfl⟩;rw[aj,ax]at hq;obtain⟨kk,af⟩:=Ex (kB big);have an:=hid af;have ah:=hid hB;have aK:=hid hK;have aH:=hid hD;have aE:=hid au;have HO:=hid aB;have ag:=hid ae;have aO:=hid ho;clear hB hK hD au aF aG aB ae ho;show Calls _ _ #[.agg #[.int .i64 (kB big),S,.slice X kz.length V,.bool J,.int .i64 o,O]] _ _
 rw[af]at ab I ac aj ax⊢;clear af;go_enter Tryz.func85,Tryz.ntmps85
 go_upto_region 1 with(fail)
 generalize w.alloc (.cells #[.int .i64 kk,S,.slice X kz.length V,.bool J,.int .i64 o,O] 73)=wA at*;have c0:wA.cell? ⟨G,0,none⟩=some (.int .i64 kk):=qa I 0;have c1:wA.cell? ⟨G,1,none⟩=some S:=qa I 1
 cases q0<;>cases q1<;>first|(exfalso;cases hq;done)|skip
 all_goals
  clear hq;go_wp2_with fail
  refine(show Calls Tryz.prog 120 #[.int .i64 kk,S] wA _ from an.out▸qbx big D S wA (ah.out.below (U▸ab)) HO.out).mono ?_;rintro e w1 ⟨⟨cs,rfl,az⟩,aa⟩;have aN:=aa.size;have aw:=qe I aa;have ay:Below G w w1:=ab.trans (aa.mono (by omega));have Z:=hid az;have ap:=hid ay;have ao:=hid aw;clear az ay aw aa ab c0 c1 I;go_upto_region 7 with((with_reducible show wpList _ _ _ (Oper.mk none (Op.store 171 (Operand.tmp 5) _) _ _ _ _::_) _ _);refine wpList_store_row rfl 171 _ _ rfl w1.heap.size cs rfl rfl 171 _ (Wn _ _) (by rw[Z.out.1];kernel_rfl) (by rw[Z.out.1];rfl) Z.out.2.1 ?_)
  refine qj ?_;intro W hW;obtain⟨p5,ad⟩:=Ex w1.heap.size;have r5:W.heap[p5]? =some (.cells cs 171 (0,0)):=by rw[hW,←ad];exact setRow_heap _ _ _ _ _ _ (Wn _ _)
  have r0:W.heap[G]? =some (.cells #[.int .i64 kk,S,.slice X kz.length V,.bool J,.int .i64 o,O] 73 (0,0)):=by rw[hW];exact(setRow_other (w1.alloc _) _ _ _ (by omega)).trans ((Bh _ _ _ (by omega)).trans ao.out)
  have ak:Below G w W:=by rw[hW];exact below_setRow (ap.out.alloc (by omega) _) (by omega) _
  have aD:DecIs big D G W cs:=Z.out.mono (by omega) (fun g hg aI=>by rw[hW];exact(setRow_other (w1.alloc _) _ _ _ (by omega)).trans (Bh _ _ _ aI));rw[ad];have aR:G<p5:=by omega
  have aS:p5<W.heap.size:=(Ai r5).1;clear hW ad ao ap Z aN ac;have R5:=hid r5;have R0:=hid r0;have ai:=hid ak;have al:=hid aD;clear r5 r0 ak aD;obtain⟨-, -,sa,pe,Y,am,aA⟩:=al.out;clear al;obtain⟨v,hv⟩:=Ex (Ye big false D);rw[hv]at Y;unfold parN yK at Y;injection Y with Y
  subst Y;have hz:=ah.out.1;have aP:=hid (Qn am (qch hz));have aJ:=hid (Qn aA (qcy hz));have HV:=hid hv;clear am aA hv;have c5:W.cell? ⟨p5,1,none⟩=some (.int .i64 (v 2:Nat)):=qa R5.out 1;have c2:W.cell? ⟨G,2,none⟩=some (.slice X kz.length V):=qa R0.out 2;have aQ:G<W.heap.size:=(Ai R0.out).1;have ar:((v 2:Nat):Int)=qn D 1:=by rw[←HV.out];exact qdN hz HO.out.1
  obtain⟨q2,aM⟩: ∃q,((kz.length:Int) != 0)=q:=⟨_,rfl⟩;obtain⟨q3,aL⟩: ∃q,((kz.length:Int) != (v 2:Nat))=q:=⟨_,rfl⟩;have aC:yX D kz=(q2&&q3):=by rw[←aM,←aL,ar];exact JG D kz
  have aq:=hid aC;clear hz ar aC;have av:(q2&&q3)=false:=by rw[←aq.out];exact ag.out
  clear aq;have c3:W.cell? ⟨G,3,none⟩=some (.bool J):=qa R0.out 3;have c4:W.cell? ⟨G,4,none⟩=some (.int .i64 o):=qa R0.out 4;have c6:W.cell? ⟨G,5,none⟩=some O:=qa R0.out 5
  cases q2<;>cases q3<;>first|(exfalso;cases av;done)|skip
  all_goals
   clear av;go_wp2_with ((with_reducible show wpList _ _ _ (Oper.mk _ (Op.load 171 _) _ _ _ _::_) _ _);refine wpList_load_row rfl 171 _ rfl p5 rfl _ _ _ _ R5.out Tryz.underlying171 rfl (by kernel_rfl) ?_)
   have HZ:=ah.out.1;refine(show Calls Tryz.prog 121 #[.int .i64 kk,parN v sa pe,.slice X kz.length V,.bool J,.int .i64 o,O] W _ from an.out▸qez big v (Yv big D) (YH big D) kz ds J o sa pe (.slice X kz.length V) O W (HV.out▸qf0 HZ HO.out) aP.out aJ.out (qgy big D) (qgO big D) (aK.out.below (U▸ai.out)) (qcM HO.out ag.out) (HV.out▸qhS HZ HO.out.1 ag.out) (aH.out.below (U▸ai.out)) aE.out aO.out).mono ?_;intro e w9 hh;obtain⟨u,rfl,hc⟩:=qdQ (w0:=w) HZ HO.out (U▸ai.out) (HV.out▸hh);have HC:=hid hc;clear hh hc HZ;go_wp2_with fail
   go_ret2
   exact HC.out
end Go.Proofs.YthjoojnlnlmljaaGreat
