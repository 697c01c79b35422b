/- The state at first, by the reference. No condition. -/
import Derived.Test.YthjoojnlnlmljaaGreatG31
import Derived.Test.YthjoojnlnlmljaaGreatG16
import Derived.Test.YthjoojnlnlmljaaGreatG22
import Derived.Test.YthjoojnlnlmljaaGreatG24
import Derived.Laws.CopyOwn
import Derived.Test.YthjoojnlnlmljaaGreatG04
import Derived.Test.YthjoojnlnlmljaaGreatG29
set_option linter.all false
set_option maxRecDepth 100000
set_option maxHeartbeats 8000000
namespace Go.Proofs.YthjoojnlnlmljaaGreat
open Go.ChangeShapes Go.WideShapes Go.ChangeAt Go.RowKit Go.Joins Go.Shelf Go.Maps
open Go.Lib (hid)
attribute [local go_sem] Oper.semAt_some
def rN (kd:Int)(v:Nat→Nat)(sa pe kv:Value)(la:Bool)(mv:Value)(cnt:Int):Array Value:= #[.int .i64 kd,.int .i64 (v 1:Nat),.int .i64 (v 2:Nat),.int .i64 (v 3:Nat),.int .i64 (v 4:Nat),.int .u32 (v 5:Nat),.int .u64 (v 6:Nat),.int .u32 (v 7:Nat),.int .i64 (v 8:Nat),.int .i64 (v 9:Nat),sa,pe,kv,.bool la,.int .u64 0,.int .u64 0,.int .u64 0,.int .u64 0,.int .u64 0,.int .u64 0,.int .u64 0,.int .u64 0,.int .u64 0,.int .u64 0,.int .u64 0,.int .u64 0,.int .u64 0,.int .u64 0,.int .u64 0,.int .u64 0,.bool false,.int .u64 0,.int .u64 0,mv,.int .u64 cnt]
def yX (big:Bool)(w:World)(np:Nat)(v:Nat→Nat)(sa pe kv:Value)(la:Bool)(mv:Value)(cnt:Int):Prop:=w.heap[np]? =some (.cells (rN (kB big) v sa pe kv la mv cnt) 254 (0,0))
def qgz (v:Nat→Nat)(sa pe:Value):Array Value:= #[.int .i64 (v 1:Nat),.int .i64 (v 2:Nat),.int .i64 (v 3:Nat),.int .i64 (v 4:Nat),.int .u32 (v 5:Nat),.int .u64 (v 6:Nat),.int .u32 (v 7:Nat),.int .i64 (v 8:Nat),.int .i64 (v 9:Nat),sa,pe]
theorem qhn (J:Int)(v:Nat→Nat)(q o O:Value)(U:Bool)(I:Value)(D:Int): ∀j,j<(qgz v q o).size→(rN J v q o O U I D)[1+j]? =(qgz v q o)[j]? :=by
 intro j G;have G:j<11:=G;rcases(show j=0∨j=1∨j=2∨j=3∨j=4∨j=5∨j=6∨j=7∨j=8∨j=9∨j=10 by omega)with rfl|rfl|rfl|rfl|rfl|rfl|rfl|rfl|rfl|rfl|rfl<;>rfl
theorem ZM {b zs:List Int}{p:Nat}(o: ∀z∈b,0≤z∧z≤255)(q: ∀z∈zs,0≤z∧z≤255): ∀z∈Qi b p zs,0≤z∧z≤255:=by
 intro z h;unfold Qi at h;rcases List.mem_append.1 h with h|h
 ·rcases List.mem_append.1 h with h|h
  ·exact o z (List.mem_of_mem_take h)
  ·exact q z h
 ·exact o z (List.mem_of_mem_drop h)
theorem Z4 (big o:Bool)(v:Nat→Nat): ∀k,∀z∈Qz big o v k,0≤z∧z≤255
 | 0,z,h=>by rw[List.eq_of_mem_replicate h];omega
 | k+1,z,h=>by
  rw[Qz]at h;split at h
  ·exact Z4 big o v k z h
  ·exact ZM (Z4 big o v k) (jR _ _) z h
theorem zO {big:Bool}{v:Nat→Nat}{z1 z2:List Int}(q: ∀z∈z1,0≤z∧z≤255)(o: ∀z∈z2,0≤z∧z≤255): ∀z∈QR big v z1 z2,0≤z∧z≤255:=
 ZM (ZM (Z4 _ _ _ _) q) o
theorem qbX (v:Nat→Nat)(z1 z2:List Int)(sa pe kv mv:Value)(la:Bool)(ai:Int)(J:Nat)(w:World)(hN:yX true w J v sa pe kv la mv ai)(hP:ParOk true v)(h1:Hold w sa z1)(h2:Hold w pe z2)(aM:z1.length≤16)(aH:z2.length≤16):
  Calls Tryz.prog 191 #[.pointer (some ⟨J,0,none⟩)] w fun e w'=>e= .returned (.agg (qi .u64 (qL (h0Z true (QR true v z1 z2)))))∧Below w.heap.size w w':=by
 obtain⟨q,aa⟩:=Ex w.heap.size;have aZ:J<q:=by rw[←aa];exact(Ai hN).1
 have aK:=fun(W:World) (I:Below q w W)=>ZT v z1 z2 sa pe W hP (h1.below (aa▸I)) (h2.below (aa▸I)) aM aH
 have ar: ∀z∈QR true v z1 z2,0≤z∧z≤255:=zO h1.1 h2.1;have aG:=yh (big:=true) (v:=v) aM aH;generalize QR true v z1 z2=V at*;obtain⟨H,ah⟩:=Ex (h0Z true V);have aC:Words 64 8 H:=by rw[←ah];exact QS true V
 have aD:ym .u64 IVb 8 V=H:=by rw[←ah];rfl
 rw[ah];have af:w.heap[J]? =some (.cells (rN 1 v sa pe kv la mv ai) 254 (0,0)):=hN;have aR:=hid aK;have aU:=hid ar;have aQ:=hid aG;have aT:=hid aD;have O:=hid aC;have aJ:=hid af;have aY:w.cell? ⟨J,30,none⟩=some (.bool false):=qd af 30;have aj:w.cell? ⟨J,0,none⟩=some (.int .i64 1):=qd af 0;have ae:J<w.heap.size:=by omega
 clear hN af aK ar aG ah aD aC hP h1 h2;go_enter Tryz.func191,Tryz.ntmps191
 go_upto_region 4 with(fail)
 have aW:((w.alloc (.cells #[.int .u64 0,.int .u64 0,.int .u64 0,.int .u64 0,.int .u64 0,.int .u64 0,.int .u64 0,.int .u64 0,.int .u64 0,.int .u64 0,.int .u64 0,.int .u64 0,.int .u64 0,.int .u64 0,.int .u64 0,.int .u64 0] 252)).alloc (.cells #[.int .u64 0,.int .u64 0,.int .u64 0,.int .u64 0,.int .u64 0,.int .u64 0,.int .u64 0,.int .u64 0,.int .u64 0,.int .u64 0,.int .u64 0,.int .u64 0,.int .u64 0,.int .u64 0,.int .u64 0,.int .u64 0] 252)).heap.size=q+2:=by simp[aa]
 have r0:((w.alloc (.cells #[.int .u64 0,.int .u64 0,.int .u64 0,.int .u64 0,.int .u64 0,.int .u64 0,.int .u64 0,.int .u64 0,.int .u64 0,.int .u64 0,.int .u64 0,.int .u64 0,.int .u64 0,.int .u64 0,.int .u64 0,.int .u64 0] 252)).alloc (.cells #[.int .u64 0,.int .u64 0,.int .u64 0,.int .u64 0,.int .u64 0,.int .u64 0,.int .u64 0,.int .u64 0,.int .u64 0,.int .u64 0,.int .u64 0,.int .u64 0,.int .u64 0,.int .u64 0,.int .u64 0,.int .u64 0] 252)).heap[q]? =some (.cells #[.int .u64 0,.int .u64 0,.int .u64 0,.int .u64 0,.int .u64 0,.int .u64 0,.int .u64 0,.int .u64 0,.int .u64 0,.int .u64 0,.int .u64 0,.int .u64 0,.int .u64 0,.int .u64 0,.int .u64 0,.int .u64 0] 252 (0,0)):=by rw[Bh _ _ _ (by simp[aa]),←aa];exact Wn _ _
 have r1:((w.alloc (.cells #[.int .u64 0,.int .u64 0,.int .u64 0,.int .u64 0,.int .u64 0,.int .u64 0,.int .u64 0,.int .u64 0,.int .u64 0,.int .u64 0,.int .u64 0,.int .u64 0,.int .u64 0,.int .u64 0,.int .u64 0,.int .u64 0] 252)).alloc (.cells #[.int .u64 0,.int .u64 0,.int .u64 0,.int .u64 0,.int .u64 0,.int .u64 0,.int .u64 0,.int .u64 0,.int .u64 0,.int .u64 0,.int .u64 0,.int .u64 0,.int .u64 0,.int .u64 0,.int .u64 0,.int .u64 0] 252)).heap[q+1]? =some (.cells (qi .u64 (Qw H (qL Z8) 0)) 252 (0,0)):=by rw[show q+1=(w.alloc (.cells #[.int .u64 0,.int .u64 0,.int .u64 0,.int .u64 0,.int .u64 0,.int .u64 0,.int .u64 0,.int .u64 0,.int .u64 0,.int .u64 0,.int .u64 0,.int .u64 0,.int .u64 0,.int .u64 0,.int .u64 0,.int .u64 0] 252)).heap.size by simp[aa]];exact Wn _ _
 have ap:Below q w ((w.alloc (.cells #[.int .u64 0,.int .u64 0,.int .u64 0,.int .u64 0,.int .u64 0,.int .u64 0,.int .u64 0,.int .u64 0,.int .u64 0,.int .u64 0,.int .u64 0,.int .u64 0,.int .u64 0,.int .u64 0,.int .u64 0,.int .u64 0] 252)).alloc (.cells #[.int .u64 0,.int .u64 0,.int .u64 0,.int .u64 0,.int .u64 0,.int .u64 0,.int .u64 0,.int .u64 0,.int .u64 0,.int .u64 0,.int .u64 0,.int .u64 0,.int .u64 0,.int .u64 0,.int .u64 0,.int .u64 0] 252)):=by rw[←aa];exact(Br.alloc Nl _).alloc (by simp) _
 generalize ((w.alloc (.cells #[.int .u64 0,.int .u64 0,.int .u64 0,.int .u64 0,.int .u64 0,.int .u64 0,.int .u64 0,.int .u64 0,.int .u64 0,.int .u64 0,.int .u64 0,.int .u64 0,.int .u64 0,.int .u64 0,.int .u64 0,.int .u64 0] 252)).alloc (.cells #[.int .u64 0,.int .u64 0,.int .u64 0,.int .u64 0,.int .u64 0,.int .u64 0,.int .u64 0,.int .u64 0,.int .u64 0,.int .u64 0,.int .u64 0,.int .u64 0,.int .u64 0,.int .u64 0,.int .u64 0,.int .u64 0] 252))=W2 at*;have aI:W2.heap[J]? =some (.cells (rN 1 v sa pe kv la mv ai) 254 (0,0)):=(ap.block J aZ).trans aJ.out;have R0:=hid r0;have R1:=hid r1;have aq:=hid ap;have ag:=hid aI;clear r0 r1 ap aI aY aj aJ ae;refine qD (n:=14) (w0:=W2) (B:=W2.heap.size) [.v 21 (.pointer (some ⟨J,0,none⟩)),.v 22 (.pointer (some ⟨J,0,none⟩)),.v 23 (.pointer (some ⟨J,0,none⟩)),.v 24 (.int .i64 1),.v 25 (.pointer (some ⟨J,0,none⟩)),.v 26 (.pointer (some ⟨J,0,none⟩)),.v 27 (.pointer (some ⟨J,1,none⟩)),.v 28 (.agg (qgz v sa pe)),.p 29 (fun u W=> ∃r,u= .tuple #[r,.int .i64 0]∧W.ownsRow W2.heap.size 5 1 r 64 (V.map qt)),.p 20 (fun u W=> ∃r,u= .tuple #[r,.int .i64 0]∧W.ownsRow W2.heap.size 5 1 r 64 (V.map qt)),.p 30 (fun u W=>W.ownsRow W2.heap.size 5 1 u 64 (V.map qt)),.v 31 (.int .i64 0),.p 4 (fun u W=>W.ownsRow W2.heap.size 5 1 u 64 (V.map qt)),.v 5 (.int .i64 0)] (by exact⟨(fun _ _ _ h I=>by obtain⟨r,e,h⟩:=h;exact⟨r,e,qk h (fun g _ hg=>I.block g hg)⟩),(fun _ _ _ h I=>by obtain⟨r,e,h⟩:=h;exact⟨r,e,qk h (fun g _ hg=>I.block g hg)⟩),(fun _ _ _ h I=>qk h (fun g _ hg=>I.block g hg)),(fun _ _ _ h I=>qk h (fun g _ hg=>I.block g hg)),trivial⟩) Br.drew Nl ?_ ?_
 ·repeat' (with_reducible first|exact qz|refine qx ?_ ?_)
  all_goals try
   intro A x W G U X o D K Z;have a0:=G.2 0 (by decide);conv at a0=>rhs;whnf
   simp only[QN,QV]at D;clear o G;go_simp
   exact Z _ _ BR rfl
  ·intro A x W G U X o _ K Z;have bl:=gv G o 2 23;clear o G;have g0:=qg ag.out U;have c0:W.cell? ⟨J,0,none⟩=some (.int .i64 1):=qd g0 0;go_simp
   exact Z _ _ BR rfl
  ·intro A x W G U X o _ K Z;have aX:=gv G o 6 27;clear o G;have g0:=qg ag.out U;refine qX 171 _ rfl J 1 aX 254 _ (qgz v sa pe) (0,0) _ g0 Tryz.underlying171 rfl (by kernel_rfl) (qhn _ _ _ _ _ _ _ _) (Z _ _ Br rfl)
  ·intro A x W G U X o _ K Z;have bm:=gv G o 3 24;have bj:=gv G o 7 28;clear o G;go_simp
   refine(aR.out W (aq.out.trans (U.mono (by omega)))).mono ?_;rintro e w' ⟨⟨r,rfl,ho⟩,I⟩;exact Z _ _ I ⟨r,rfl,ownsRow_le ho X⟩
  ·intro A x W G U X o _ K Z;have a5:(fun u W=> ∃r,u= .tuple #[r,.int .i64 0]∧W.ownsRow W2.heap.size 5 1 r 64 (V.map qt)) (x 29) W:=o ⟨8,.data⟩ (by simp) rfl _ rfl;have a6:A.tmps.getD 29 undef=x 29:=G.1 29 (by decide);clear o G;go_simp
   exact Z _ _ Br (a6▸a5)
  ·intro A x W G U X o _ K Z;have am:(fun u W=> ∃r,u= .tuple #[r,.int .i64 0]∧W.ownsRow W2.heap.size 5 1 r 64 (V.map qt)) (x 20) W:=o ⟨9,.data⟩ (by simp) rfl _ rfl;have ao:A.tmps.getD 20 undef=x 20:=G.1 20 (by decide);clear o G;obtain⟨r,er,hr⟩:=am;rw[er]at ao;go_simp
   exact Z _ _ Br hr
  ·intro A x W G U X o _ K Z;have am:(fun u W=> ∃r,u= .tuple #[r,.int .i64 0]∧W.ownsRow W2.heap.size 5 1 r 64 (V.map qt)) (x 20) W:=o ⟨9,.data⟩ (by simp) rfl _ rfl;have ao:A.tmps.getD 20 undef=x 20:=G.1 20 (by decide);clear o G;obtain⟨r,er,hr⟩:=am;rw[er]at ao;go_simp
   exact Z _ _ BR rfl
  ·intro A x W G U X o _ K Z;have aV:(fun u W=>W.ownsRow W2.heap.size 5 1 u 64 (V.map qt)) (x 30) W:=o ⟨10,.data⟩ (by simp) rfl _ rfl;have a7:A.tmps.getD 30 undef=x 30:=G.1 30 (by decide);clear o G;go_simp
   exact Z _ _ Br (a7▸aV)
 intro x W U X aS;obtain⟨aF,aN,aA,e4, -⟩:=aS;change (fun u W=> ∃r,u= .tuple #[r,.int .i64 0]∧W.ownsRow W2.heap.size 5 1 r 64 (V.map qt)) (x 29) W at aF
 change (fun u W=> ∃r,u= .tuple #[r,.int .i64 0]∧W.ownsRow W2.heap.size 5 1 r 64 (V.map qt)) (x 20) W at aN
 change (fun u W=>W.ownsRow W2.heap.size 5 1 u 64 (V.map qt)) (x 30) W at aA
 change (fun u W=>W.ownsRow W2.heap.size 5 1 u 64 (V.map qt)) (x 4) W at e4
 refine qv ?_;simp only[QA,Act.put,Ls];have aL:=Q0 e4;have ax:Below q w W:=aq.out.trans (U.mono (by omega));have g0:=qg ag.out U;have r0:=qg R0.out U;have r1:=qg R1.out U;have aj:W.cell? ⟨J,0,none⟩=some (.int .i64 1):=qd g0 0;have ae:J<W.heap.size:=(Ai g0).1;have a3:q+2≤W.heap.size:=by have:=U.size;omega
 have az:=hid r0;have aB:=hid r1;have aO:=hid ax;have av:=hid aL;clear aF aN aA e4 aL ax g0 r0 r1 U X R0 R1 aq ag aW;go_wp2_with fail
 refine(qe1 V _ _ av.out aU.out aQ.out).mono ?_;rintro e w1 ⟨rfl,ac⟩;rw[aT.out];have a4:=ac.size;have k0:=qg az.out ac;have k1:=qg aB.out ac;have aE:Below q w w1:=aO.out.trans (ac.mono (by omega));have K0:=hid k0;have K1:=hid k1;have au:=hid aE;clear k0 k1 aE ac az aB aO av aj ae;go_upto_region 7 with((with_reducible show wpList _ _ _ (Oper.mk none (Op.store 274 _ _) _ _ _ _::_) _ _);refine wpList_store_row rfl 274 _ _ rfl w1.heap.size (qi .u64 H) rfl rfl 274 _ (Wn _ _) (by rw[qf,O.out.1];kernel_rfl) (by rw[qf,O.out.1];rfl) qA ?_)
 refine qm ?_;intro W7 ad;obtain⟨bv,ak⟩:=Ex w1.heap.size;have m0:W7.heap[q]? =some (.cells #[.int .u64 0,.int .u64 0,.int .u64 0,.int .u64 0,.int .u64 0,.int .u64 0,.int .u64 0,.int .u64 0,.int .u64 0,.int .u64 0,.int .u64 0,.int .u64 0,.int .u64 0,.int .u64 0,.int .u64 0,.int .u64 0] 252 (0,0)):=by rw[ad];exact(setRow_other (w1.alloc _) _ _ _ (by omega)).trans ((Bh _ _ _ (by omega)).trans K0.out)
 have m1:W7.heap[q+1]? =some (.cells (qi .u64 (Qw H (qL Z8) 0)) 252 (0,0)):=by rw[ad];exact(setRow_other (w1.alloc _) _ _ _ (by omega)).trans ((Bh _ _ _ (by omega)).trans K1.out)
 have m2:W7.heap[bv]? =some (.cells (qi .u64 H) 274 (0,0)):=by rw[ad,←ak];exact setRow_heap _ _ _ _ _ _ (Wn _ _)
 have aw:Below q w W7:=by rw[ad];exact below_setRow (au.out.alloc (by omega) _) (by omega) _
 have bf:bv<W7.heap.size:=(Ai m2).1;have be:q+2≤bv:=by omega
 rw[ak];have M0:=hid m0;have M1:=hid m1;have M2:=hid m2;have ba:=hid aw;clear ad ak m0 m1 m2 aw K0 K1 au a4 a3;go_wp2_with fail
 go_loopw [8] (fun i wr=> ∃j:Nat,i= .int .i64 (j:Nat)∧j≤8∧wr.heap[q+1]? =some (.cells (qi .u64 (Qw H (qL Z8) j)) 252 (0,0))∧But (q+1) W7 wr) (fun i _=>8 - (intOf i).toNat)
 case atStart=>exact⟨0,rfl,by omega,M1.out,But.refl _ _⟩
 case round=>
  obtain⟨j,rfl,hj,Y,I⟩:=hrel;have aP:=hid Y;have HB:=hid I;have bi:bv<wr.heap.size:=by have:=I.size;omega
  have an:(qL Z8).length=16:=rfl;by_cases ay:j<8
  case pos=>
   have c0:wr.cell? ⟨bv,j,none⟩=some (.int .u64 (wd H j)):=by rw[qd ((I.block bv (by omega) (by omega)).trans M2.out) j,Yd (by rw[O.out.1];omega)]
   have bb:(Qw H (qL Z8) j).length=16:=by rw[yP (by rw[O.out.1];omega) (by omega),an]
   have c1:wr.cell? ⟨q+1,j,none⟩=some (.int .u64 (wd (Qw H (qL Z8) j) j)):=by rw[qd Y j,Yd (by omega)]
   have f1:=frozen_of_row wr (q+1) j _ _ Y;have al:=heap_setCell_same wr (q+1) j _ _ (.int .u64 (wd H j)) Y;rw[Qe,Y9 (by rw[O.out.1];omega) (by omega)]at al;have a9:=yl O.out ay;have bc:=hid al;have bk:(j:Int)<8:=by omega
   generalize wd (Qw H (qL Z8) j) j=zo at c1;generalize wd H j=zj at*;obtain⟨bh,bg⟩:=a9;clear al bb Y I an;go_wp2
   exact⟨⟨j+1,rfl,by omega,bc.out,HB.out.set _ _⟩,by simp[intOf];omega⟩
  obtain rfl:j=8:=by omega
  rw[JG O.out.1 rfl]at Y;have n1:=(I.block q (by omega) (by omega)).trans M0.out;have a8:Below q w wr:=ba.out.trans (I.below (by omega) (by omega));have ab:=Qd (by decide) O.out;have bd:q+1<wr.heap.size:=by omega
  clear I an hj ay aP;go_wp2_with (first|((with_reducible show wpList _ _ _ (Oper.mk (some 51) _ _ _ _ _::_) _ _);refine wpList_load_row rfl 252 _ rfl (q+1) rfl _ _ _ _ Y Tryz.underlying252 rfl (by rw[qf,ab.1];kernel_rfl) ?_)|((with_reducible show wpList _ _ _ (Oper.mk none (Op.store 252 _ _) _ _ _ _::_) _ _);refine wpList_store_row rfl 252 _ _ rfl q (qi .u64 (qL H)) rfl rfl 252 _ n1 (by rw[qf,ab.1];kernel_rfl) (by rw[qf,ab.1];rfl) qA ?_))
  exact Bp (results_cell_row rfl _ _ q 252 _ _ _ rfl (setRow_heap _ _ _ _ _ _ n1) Tryz.underlying252 rfl (by rw[qf,ab.1];kernel_rfl)) rfl ⟨rfl,by rw[aa];exact below_setRow a8 Nl _⟩
theorem qbj (v:Nat→Nat)(z1 z2:List Int)(sa pe kv mv:Value)(la:Bool)(ai:Int)(J:Nat)(w:World)(hN:yX false w J v sa pe kv la mv ai)(hP:ParOk false v)(h1:Hold w sa z1)(h2:Hold w pe z2)(aN:z1.length≤8)(aI:z2.length≤8):
  Calls Tryz.prog 191 #[.pointer (some ⟨J,0,none⟩)] w fun e w'=>e= .returned (.agg (qi .u64 (qL (h0Z false (QR false v z1 z2)))))∧Below w.heap.size w w':=by
 obtain⟨q,aa⟩:=Ex w.heap.size;have a3:J<q:=by rw[←aa];exact(Ai hN).1
 have aL:=fun(W:World) (I:Below q w W)=>Zv v z1 z2 sa pe W hP (h1.below (aa▸I)) (h2.below (aa▸I)) aN aI
 have au: ∀z∈QR false v z1 z2,0≤z∧z≤255:=zO h1.1 h2.1;have aH:=yh (big:=false) (v:=v) aN aI;generalize QR false v z1 z2=V at*;obtain⟨H,ah⟩:=Ex (h0Z false V);have aD:Words 32 8 H:=by rw[←ah];exact QS false V
 have aE:ym .u32 IVs 4 V=H:=by rw[←ah];rfl
 rw[ah];have af:w.heap[J]? =some (.cells (rN 2 v sa pe kv la mv ai) 254 (0,0)):=hN;have aS:=hid aL;have aV:=hid au;have aR:=hid aH;have aU:=hid aE;have O:=hid aD;have aK:=hid af;have aZ:w.cell? ⟨J,30,none⟩=some (.bool false):=qd af 30;have aj:w.cell? ⟨J,0,none⟩=some (.int .i64 2):=qd af 0;have ae:J<w.heap.size:=by omega
 clear hN af aL au aH ah aE aD hP h1 h2;go_enter Tryz.func191,Tryz.ntmps191
 go_upto_region 4 with(fail)
 have aX:((w.alloc (.cells #[.int .u64 0,.int .u64 0,.int .u64 0,.int .u64 0,.int .u64 0,.int .u64 0,.int .u64 0,.int .u64 0,.int .u64 0,.int .u64 0,.int .u64 0,.int .u64 0,.int .u64 0,.int .u64 0,.int .u64 0,.int .u64 0] 252)).alloc (.cells #[.int .u64 0,.int .u64 0,.int .u64 0,.int .u64 0,.int .u64 0,.int .u64 0,.int .u64 0,.int .u64 0,.int .u64 0,.int .u64 0,.int .u64 0,.int .u64 0,.int .u64 0,.int .u64 0,.int .u64 0,.int .u64 0] 252)).heap.size=q+2:=by simp[aa]
 have r0:((w.alloc (.cells #[.int .u64 0,.int .u64 0,.int .u64 0,.int .u64 0,.int .u64 0,.int .u64 0,.int .u64 0,.int .u64 0,.int .u64 0,.int .u64 0,.int .u64 0,.int .u64 0,.int .u64 0,.int .u64 0,.int .u64 0,.int .u64 0] 252)).alloc (.cells #[.int .u64 0,.int .u64 0,.int .u64 0,.int .u64 0,.int .u64 0,.int .u64 0,.int .u64 0,.int .u64 0,.int .u64 0,.int .u64 0,.int .u64 0,.int .u64 0,.int .u64 0,.int .u64 0,.int .u64 0,.int .u64 0] 252)).heap[q]? =some (.cells #[.int .u64 0,.int .u64 0,.int .u64 0,.int .u64 0,.int .u64 0,.int .u64 0,.int .u64 0,.int .u64 0,.int .u64 0,.int .u64 0,.int .u64 0,.int .u64 0,.int .u64 0,.int .u64 0,.int .u64 0,.int .u64 0] 252 (0,0)):=by rw[Bh _ _ _ (by simp[aa]),←aa];exact Wn _ _
 have r1:((w.alloc (.cells #[.int .u64 0,.int .u64 0,.int .u64 0,.int .u64 0,.int .u64 0,.int .u64 0,.int .u64 0,.int .u64 0,.int .u64 0,.int .u64 0,.int .u64 0,.int .u64 0,.int .u64 0,.int .u64 0,.int .u64 0,.int .u64 0] 252)).alloc (.cells #[.int .u64 0,.int .u64 0,.int .u64 0,.int .u64 0,.int .u64 0,.int .u64 0,.int .u64 0,.int .u64 0,.int .u64 0,.int .u64 0,.int .u64 0,.int .u64 0,.int .u64 0,.int .u64 0,.int .u64 0,.int .u64 0] 252)).heap[q+1]? =some (.cells (qi .u64 (Qw H (qL Z8) 0)) 252 (0,0)):=by rw[show q+1=(w.alloc (.cells #[.int .u64 0,.int .u64 0,.int .u64 0,.int .u64 0,.int .u64 0,.int .u64 0,.int .u64 0,.int .u64 0,.int .u64 0,.int .u64 0,.int .u64 0,.int .u64 0,.int .u64 0,.int .u64 0,.int .u64 0,.int .u64 0] 252)).heap.size by simp[aa]];exact Wn _ _
 have aq:Below q w ((w.alloc (.cells #[.int .u64 0,.int .u64 0,.int .u64 0,.int .u64 0,.int .u64 0,.int .u64 0,.int .u64 0,.int .u64 0,.int .u64 0,.int .u64 0,.int .u64 0,.int .u64 0,.int .u64 0,.int .u64 0,.int .u64 0,.int .u64 0] 252)).alloc (.cells #[.int .u64 0,.int .u64 0,.int .u64 0,.int .u64 0,.int .u64 0,.int .u64 0,.int .u64 0,.int .u64 0,.int .u64 0,.int .u64 0,.int .u64 0,.int .u64 0,.int .u64 0,.int .u64 0,.int .u64 0,.int .u64 0] 252)):=by rw[←aa];exact(Br.alloc Nl _).alloc (by simp) _
 generalize ((w.alloc (.cells #[.int .u64 0,.int .u64 0,.int .u64 0,.int .u64 0,.int .u64 0,.int .u64 0,.int .u64 0,.int .u64 0,.int .u64 0,.int .u64 0,.int .u64 0,.int .u64 0,.int .u64 0,.int .u64 0,.int .u64 0,.int .u64 0] 252)).alloc (.cells #[.int .u64 0,.int .u64 0,.int .u64 0,.int .u64 0,.int .u64 0,.int .u64 0,.int .u64 0,.int .u64 0,.int .u64 0,.int .u64 0,.int .u64 0,.int .u64 0,.int .u64 0,.int .u64 0,.int .u64 0,.int .u64 0] 252))=W2 at*;have aJ:W2.heap[J]? =some (.cells (rN 2 v sa pe kv la mv ai) 254 (0,0)):=(aq.block J a3).trans aK.out;have R0:=hid r0;have R1:=hid r1;have ar:=hid aq;have ag:=hid aJ;clear r0 r1 aq aJ aZ aj aK ae;refine qD (n:=14) (w0:=W2) (B:=W2.heap.size) [.v 21 (.pointer (some ⟨J,0,none⟩)),.v 22 (.pointer (some ⟨J,0,none⟩)),.v 23 (.pointer (some ⟨J,0,none⟩)),.v 24 (.int .i64 2),.v 25 (.pointer (some ⟨J,0,none⟩)),.v 26 (.pointer (some ⟨J,0,none⟩)),.v 27 (.pointer (some ⟨J,1,none⟩)),.v 28 (.agg (qgz v sa pe)),.p 29 (fun u W=> ∃r,u= .tuple #[r,.int .i64 0]∧W.ownsRow W2.heap.size 5 1 r 32 (V.map qt)),.p 20 (fun u W=> ∃r,u= .tuple #[r,.int .i64 0]∧W.ownsRow W2.heap.size 5 1 r 32 (V.map qt)),.p 30 (fun u W=>W.ownsRow W2.heap.size 5 1 u 32 (V.map qt)),.v 31 (.int .i64 0),.p 4 (fun u W=>W.ownsRow W2.heap.size 5 1 u 32 (V.map qt)),.v 5 (.int .i64 0)] (by exact⟨(fun _ _ _ h I=>by obtain⟨r,e,h⟩:=h;exact⟨r,e,qk h (fun g _ hg=>I.block g hg)⟩),(fun _ _ _ h I=>by obtain⟨r,e,h⟩:=h;exact⟨r,e,qk h (fun g _ hg=>I.block g hg)⟩),(fun _ _ _ h I=>qk h (fun g _ hg=>I.block g hg)),(fun _ _ _ h I=>qk h (fun g _ hg=>I.block g hg)),trivial⟩) Br.drew Nl ?_ ?_
 ·repeat' (with_reducible first|exact qz|refine qx ?_ ?_)
  all_goals try
   intro A x W G U X o D K Z;have a0:=G.2 0 (by decide);conv at a0=>rhs;whnf
   simp only[QN,QV]at D;clear o G;go_simp
   exact Z _ _ BR rfl
  ·intro A x W G U X o _ K Z;have bl:=gv G o 2 23;clear o G;have g0:=qg ag.out U;have c0:W.cell? ⟨J,0,none⟩=some (.int .i64 2):=qd g0 0;go_simp
   exact Z _ _ BR rfl
  ·intro A x W G U X o _ K Z;have aY:=gv G o 6 27;clear o G;have g0:=qg ag.out U;refine qX 171 _ rfl J 1 aY 254 _ (qgz v sa pe) (0,0) _ g0 Tryz.underlying171 rfl (by kernel_rfl) (qhn _ _ _ _ _ _ _ _) (Z _ _ Br rfl)
  ·intro A x W G U X o _ K Z;have bm:=gv G o 3 24;have bj:=gv G o 7 28;clear o G;go_simp
   refine(aS.out W (ar.out.trans (U.mono (by omega)))).mono ?_;rintro e w' ⟨⟨r,rfl,ho⟩,I⟩;exact Z _ _ I ⟨r,rfl,ownsRow_le ho X⟩
  ·intro A x W G U X o _ K Z;have a6:(fun u W=> ∃r,u= .tuple #[r,.int .i64 0]∧W.ownsRow W2.heap.size 5 1 r 32 (V.map qt)) (x 29) W:=o ⟨8,.data⟩ (by simp) rfl _ rfl;have a7:A.tmps.getD 29 undef=x 29:=G.1 29 (by decide);clear o G;go_simp
   exact Z _ _ Br (a7▸a6)
  ·intro A x W G U X o _ K Z;have an:(fun u W=> ∃r,u= .tuple #[r,.int .i64 0]∧W.ownsRow W2.heap.size 5 1 r 32 (V.map qt)) (x 20) W:=o ⟨9,.data⟩ (by simp) rfl _ rfl;have ap:A.tmps.getD 20 undef=x 20:=G.1 20 (by decide);clear o G;obtain⟨r,er,hr⟩:=an;rw[er]at ap;go_simp
   exact Z _ _ Br hr
  ·intro A x W G U X o _ K Z;have an:(fun u W=> ∃r,u= .tuple #[r,.int .i64 0]∧W.ownsRow W2.heap.size 5 1 r 32 (V.map qt)) (x 20) W:=o ⟨9,.data⟩ (by simp) rfl _ rfl;have ap:A.tmps.getD 20 undef=x 20:=G.1 20 (by decide);clear o G;obtain⟨r,er,hr⟩:=an;rw[er]at ap;go_simp
   exact Z _ _ BR rfl
  ·intro A x W G U X o _ K Z;have aW:(fun u W=>W.ownsRow W2.heap.size 5 1 u 32 (V.map qt)) (x 30) W:=o ⟨10,.data⟩ (by simp) rfl _ rfl;have a8:A.tmps.getD 30 undef=x 30:=G.1 30 (by decide);clear o G;go_simp
   exact Z _ _ Br (a8▸aW)
 intro x W U X aT;obtain⟨aG,aO,aB,e4, -⟩:=aT;change (fun u W=> ∃r,u= .tuple #[r,.int .i64 0]∧W.ownsRow W2.heap.size 5 1 r 32 (V.map qt)) (x 29) W at aG
 change (fun u W=> ∃r,u= .tuple #[r,.int .i64 0]∧W.ownsRow W2.heap.size 5 1 r 32 (V.map qt)) (x 20) W at aO
 change (fun u W=>W.ownsRow W2.heap.size 5 1 u 32 (V.map qt)) (x 30) W at aB
 change (fun u W=>W.ownsRow W2.heap.size 5 1 u 32 (V.map qt)) (x 4) W at e4
 refine qv ?_;simp only[QA,Act.put,Ls];have aM:=Q0 e4;have ay:Below q w W:=ar.out.trans (U.mono (by omega));have g0:=qg ag.out U;have r0:=qg R0.out U;have r1:=qg R1.out U;have aj:W.cell? ⟨J,0,none⟩=some (.int .i64 2):=qd g0 0;have ae:J<W.heap.size:=(Ai g0).1;have a4:q+2≤W.heap.size:=by have:=U.size;omega
 have aA:=hid r0;have aC:=hid r1;have aP:=hid ay;have aw:=hid aM;clear aG aO aB e4 aM ay g0 r0 r1 U X R0 R1 ar ag aX;go_wp2_with fail
 refine(qe2 V _ _ aw.out aV.out aR.out).mono ?_;rintro e w1 ⟨rfl,ac⟩;rw[aU.out];have a5:=ac.size;have k0:=qg aA.out ac;have k1:=qg aC.out ac;have aF:Below q w w1:=aP.out.trans (ac.mono (by omega));have K0:=hid k0;have K1:=hid k1;have av:=hid aF;clear k0 k1 aF ac aA aC aP aw aj ae;go_upto_region 13 with((with_reducible show wpList _ _ _ (Oper.mk none (Op.store 284 _ _) _ _ _ _::_) _ _);refine wpList_store_row rfl 284 _ _ rfl w1.heap.size (qi .u32 H) rfl rfl 284 _ (Wn _ _) (by rw[qf,O.out.1];kernel_rfl) (by rw[qf,O.out.1];rfl) qA ?_)
 refine qm ?_;intro W7 ad;obtain⟨bv,al⟩:=Ex w1.heap.size;have m0:W7.heap[q]? =some (.cells #[.int .u64 0,.int .u64 0,.int .u64 0,.int .u64 0,.int .u64 0,.int .u64 0,.int .u64 0,.int .u64 0,.int .u64 0,.int .u64 0,.int .u64 0,.int .u64 0,.int .u64 0,.int .u64 0,.int .u64 0,.int .u64 0] 252 (0,0)):=by rw[ad];exact(setRow_other (w1.alloc _) _ _ _ (by omega)).trans ((Bh _ _ _ (by omega)).trans K0.out)
 have m1:W7.heap[q+1]? =some (.cells (qi .u64 (Qw H (qL Z8) 0)) 252 (0,0)):=by rw[ad];exact(setRow_other (w1.alloc _) _ _ _ (by omega)).trans ((Bh _ _ _ (by omega)).trans K1.out)
 have m2:W7.heap[bv]? =some (.cells (qi .u32 H) 284 (0,0)):=by rw[ad,←al];exact setRow_heap _ _ _ _ _ _ (Wn _ _)
 have ax:Below q w W7:=by rw[ad];exact below_setRow (av.out.alloc (by omega) _) (by omega) _
 have bf:bv<W7.heap.size:=(Ai m2).1;have be:q+2≤bv:=by omega
 rw[al];have M0:=hid m0;have M1:=hid m1;have M2:=hid m2;have ba:=hid ax;clear ad al m0 m1 m2 ax K0 K1 av a5 a4;go_wp2_with fail
 go_loopw [11] (fun i wr=> ∃j:Nat,i= .int .i64 (j:Nat)∧j≤8∧wr.heap[q+1]? =some (.cells (qi .u64 (Qw H (qL Z8) j)) 252 (0,0))∧But (q+1) W7 wr) (fun i _=>8 - (intOf i).toNat)
 case atStart=>exact⟨0,rfl,by omega,M1.out,But.refl _ _⟩
 case round=>
  obtain⟨j,rfl,hj,Y,I⟩:=hrel;have aQ:=hid Y;have HB:=hid I;have bi:bv<wr.heap.size:=by have:=I.size;omega
  have ao:(qL Z8).length=16:=rfl;by_cases az:j<8
  case pos=>
   have c0:wr.cell? ⟨bv,j,none⟩=some (.int .u32 (wd H j)):=by rw[qd ((I.block bv (by omega) (by omega)).trans M2.out) j,Yd (by rw[O.out.1];omega)]
   have bb:(Qw H (qL Z8) j).length=16:=by rw[yP (by rw[O.out.1];omega) (by omega),ao]
   have c1:wr.cell? ⟨q+1,j,none⟩=some (.int .u64 (wd (Qw H (qL Z8) j) j)):=by rw[qd Y j,Yd (by omega)]
   have f1:=frozen_of_row wr (q+1) j _ _ Y;have am:=heap_setCell_same wr (q+1) j _ _ (.int .u64 (wd H j)) Y;rw[Qe,Y9 (by rw[O.out.1];omega) (by omega)]at am;have ak:=yl O.out az;have bn:IntKind.u64.wrap (wd H j)=wd H j:=u64_wrap_id _ ak.1 (by have:=ak.2;simp at this;omega);have bc:=hid am;have bk:(j:Int)<8:=by omega
   generalize wd (Qw H (qL Z8) j) j=zo at c1;generalize wd H j=zj at*;obtain⟨bh,bg⟩:=ak;clear am bb Y I ao;go_wp2
   exact⟨⟨j+1,rfl,by omega,bc.out,HB.out.set _ _⟩,by simp[intOf];omega⟩
  obtain rfl:j=8:=by omega
  rw[JG O.out.1 rfl]at Y;have n1:=(I.block q (by omega) (by omega)).trans M0.out;have a9:Below q w wr:=ba.out.trans (I.below (by omega) (by omega));have ab:=Qd (by decide) O.out;have bd:q+1<wr.heap.size:=by omega
  clear I ao hj az aQ;go_wp2_with (first|((with_reducible show wpList _ _ _ (Oper.mk (some 67) _ _ _ _ _::_) _ _);refine wpList_load_row rfl 252 _ rfl (q+1) rfl _ _ _ _ Y Tryz.underlying252 rfl (by rw[qf,ab.1];kernel_rfl) ?_)|((with_reducible show wpList _ _ _ (Oper.mk none (Op.store 252 _ _) _ _ _ _::_) _ _);refine wpList_store_row rfl 252 _ _ rfl q (qi .u64 (qL H)) rfl rfl 252 _ n1 (by rw[qf,ab.1];kernel_rfl) (by rw[qf,ab.1];rfl) qA ?_))
  exact Bp (results_cell_row rfl _ _ q 252 _ _ _ rfl (setRow_heap _ _ _ _ _ _ n1) Tryz.underlying252 rfl (by rw[qf,ab.1];kernel_rfl)) rfl ⟨rfl,by rw[aa];exact below_setRow a9 Nl _⟩
structure TreeOk (t:TreeV)(kz z1 z2:List Int)(w:World):Prop where
 v:t.validE=0
 l:0≤t.l∧t.l≤4294967295
 k:Hold w (.slice t.ka t.kl t.kc) kz
 s:Hold w (.slice t.sa t.sl t.sc) z1
 p:Hold w (.slice t.pa t.pl t.pc) z2
theorem TreeOk.below {t:TreeV}{kz z1 z2:List Int}{w w':World}(h:TreeOk t kz z1 z2 w)(o:Below w.heap.size w w'):TreeOk t kz z1 z2 w':=⟨h.v,h.l,h.k.below o,h.s.below o,h.p.below o⟩
theorem Yy {w:World}{a:Option Addr}{n c:Nat}{zs:List Int}(h:Hold w (.slice a n c) zs):zs.length=n:=by
 obtain⟨q,o,e, -, -⟩:=h.slice;simp only[Value.slice.injEq]at e;exact e.2.1.symm
def TreeV.node (t:TreeV)(kz z1 z2:List Int)(row i:Nat)(la rt:Bool)(d:List Int):List Int:=jO t.big (t.blk z1 z2 row i) (Z1 row kz) la (t.outN rt) d
theorem yG (t:TreeV)(kz z1 z2:List Int)(row i:Nat)(q o:Bool)(d:List Int): ∀a∈t.node kz z1 z2 row i q o d,0≤a∧a≤255:=fun a D=>qd2 _ _ _ _ a (List.mem_of_mem_take D)
theorem qc9 (big:Bool)(q kz ds:List Int)(G:Bool)(o:Int)(I O J:Value)(w:World)(Y:Hold w I q)(Z:Hold w O kz)(hD:Hold w J ds)(U:(ds.length:Int)≤140737488355200)(V:okD big false q)(D:Yh q kz=false)(X:1≤o∧o≤(mB big:Nat)):
  Calls Tryz.prog 60 #[.agg (Yb (kB big) I O G o J)] w fun e w'=>qbN big q kz G o ds w e w':=by
 cases big
 ·exact qfG q kz ds G o I O J w Y Z hD U V D X
 ·exact qgX q kz ds G o I O J w Y Z hD U V D X
theorem TreeOk.okD {t:TreeV}{kz z1 z2:List Int}{w:World}(h:TreeOk t kz z1 z2 w){row at_:Nat}(J:row≤255)(I:at_<281474976710656):
  Go.Proofs.YthjoojnlnlmljaaGreat.okD t.big false (t.blk z1 z2 row at_)∧Yh (t.blk z1 z2 row at_) (Z1 row kz)=false∧(∀z∈t.blk z1 z2 row at_,0≤z∧z≤255)∧ ∀o:Bool,1≤t.outN o∧t.outN o≤(mB t.big:Nat):=by
 have q:=qq h.v;have U:=yz h.v;have Y:=Yy h.s;have X:=Yy h.p;have e3:=Yy h.k;obtain⟨O,D⟩:=qfU (z1:=z1) (z2:=z2) (qaG h.v h.l J I) (by omega) (by omega);refine⟨O,?_,zO h.s.1 h.p.1,fun o=>?_⟩
 ·have G:qr (t.blk z1 z2 row at_) 1=(t.kl:Int):=D;unfold Yh Z1;rw[G];refine decide_eq_false ?_;split
  ·omega
  ·simp
 ·obtain⟨-,d1,d2,Z,V, -⟩:=q
  cases o
  ·show 1≤t.i∧t.i≤_;omega
  ·show 1≤t.d∧t.d≤_;omega
def TreeV.rowZ (t:TreeV)(kz z1 z2:List Int)(row:Nat)(rt:Bool)(L:List (List Int))(m:Nat):List (List Int):=(List.range m).map fun i=>t.node kz z1 z2 row i (decide (i+1=L.length)) rt (qQ L i)
theorem Zw (t:TreeV)(kz z1 z2:List Int)(row:Nat)(o:Bool)(L:List (List Int))(m:Nat):t.rowZ kz z1 z2 row o L (m+1)=t.rowZ kz z1 z2 row o L m++[t.node kz z1 z2 row m (decide (m+1=L.length)) o (qQ L m)]:=by simp[TreeV.rowZ,List.range_succ]
theorem qK (t:TreeV)(kz z1 z2:List Int)(row:Nat)(o:Bool)(L:List (List Int))(m:Nat):(t.rowZ kz z1 z2 row o L m).length=m:=by simp[TreeV.rowZ]
structure CallS where
 k:Int
 bs:List Int
 kz:List Int
 la:Bool
 o:Int
 ds:List Int
def CallS.zero:CallS:=⟨0,[],[],false,0,[]⟩
def KeepH (w0:World)(B:Nat)(w:World)(v:Value)(z:List Int):Prop:=OwnB B w v z∨Hold w0 v z∧Below w0.heap.size w0 w
theorem KeepH.hold {w0 w:World}{B:Nat}{v:Value}{z:List Int}(h:KeepH w0 B w v z):Hold w v z:=by
 rcases h with h|⟨h,o⟩
 ·exact h.hold
 ·exact h.below o
theorem KeepH.kb {w0 w w':World}{B b:Nat}{v:Value}{z:List Int}(h:KeepH w0 B w v z)(q:w0.heap.size≤b)(k:KB b w w'):KeepH w0 B w' v z:=by
 rcases h with h|⟨h,o⟩
 ·exact .inl (h.kb k)
 ·exact .inr ⟨h,o.trans (k.below.mono q)⟩
theorem KeepH.le {w0 w:World}{B b:Nat}{v:Value}{z:List Int}(h:KeepH w0 B w v z)(o:b≤B):KeepH w0 b w v z:=by
 rcases h with h|h
 ·exact .inl (h.le o)
 ·exact .inr h
def CallAt (w0:World)(B:Nat)(w:World)(s:CallS)(c:List Value):Prop:=
 ∃a1 n1 c1 a2 n2 c2 a3 n3 c3,c=[.int .i64 s.k,.slice a1 n1 c1,.slice a2 n2 c2,.bool s.la,.int .i64 s.o,.slice a3 n3 c3]∧OwnB B w (.slice a1 n1 c1) s.bs∧KeepH w0 B w (.slice a2 n2 c2) s.kz∧KeepH w0 B w (.slice a3 n3 c3) s.ds
theorem CallAt.kb {w0 w w':World}{B b:Nat}{s:CallS}{c:List Value}(h:CallAt w0 B w s c)(o:w0.heap.size≤b)(k:KB b w w'):CallAt w0 B w' s c:=by
 obtain⟨a1,O,c1,a2,J,c2,G,U,D,e,V,q,I⟩:=h;exact⟨a1,O,c1,a2,J,c2,G,U,D,e,V.kb k,q.kb o k,I.kb o k⟩
theorem CallAt.le {w0 w:World}{B b:Nat}{s:CallS}{c:List Value}(h:CallAt w0 B w s c)(o:b≤B):CallAt w0 b w s c:=by
 obtain⟨a1,O,c1,a2,J,c2,G,U,D,e,V,q,I⟩:=h;exact⟨a1,O,c1,a2,J,c2,G,U,D,e,V.le o,q.le o,I.le o⟩
def CallsO (w0:World)(B:Nat)(w:World)(v:Value)(S:List CallS):Prop:=
 ∃cs:List (List Value),cs.length=S.length∧w.ownsRow B 73 6 v S.length cs.flatten∧ ∀i,i<S.length→CallAt w0 B w (S.getD i .zero) (cs.getD i [])
theorem CallsO.nil (w0:World)(B:Nat)(w:World):CallsO w0 B w (.slice none 0 0) []:=⟨[],rfl,Wo _ _ _ _,fun i o=>by simp at o⟩
theorem CallsO.kb {w0 w w':World}{B b:Nat}{v:Value}{S:List CallS}(h:CallsO w0 B w v S)(X:w0.heap.size≤b)(k:KB b w w')(U: ∀g,v.ownBlock=some g→w'.heap[g]? =w.heap[g]?):CallsO w0 B w' v S:=by
 obtain⟨cs,O,D,I⟩:=h;refine⟨cs,O,⟨D.1,?_⟩,fun i V=>(I i V).kb X k⟩;rcases D.2 with o|⟨g,G,q,rfl,Y,o,J⟩
 ·exact .inl o
 ·exact .inr ⟨g,G,q,rfl,Y,by rw[U g rfl];exact o,J⟩
theorem Qf {w:World}{B T n s:Nat}{v:Value}{G:List Value}(D:w.ownsRow B T s v n G): ∀g,v.ownBlock=some g→g<w.heap.size:=by
 intro g o;rcases D.2 with⟨rfl, -⟩|⟨O,I,J,rfl, -,q, -⟩
 ·cases o
 ·simp only[Value.ownBlock,Option.some.injEq]at o;subst o;exact(Ai q).1
theorem CallsO.below {w0 w w':World}{B:Nat}{v:Value}{S:List CallS}(h:CallsO w0 B w v S)(o:w0.heap.size≤w.heap.size)(k:Below w.heap.size w w'):CallsO w0 B w' v S:=by
 refine h.kb o (KB.of_below k Nl) fun g D=>?_
 obtain⟨cs, -,q, -⟩:=h;exact k.block g (Qf q g D)
theorem CallsO.le {w0 w:World}{B b:Nat}{v:Value}{S:List CallS}(h:CallsO w0 B w v S)(o:b≤B):CallsO w0 b w v S:=by
 obtain⟨cs,I,G,q⟩:=h;exact⟨cs,I,ownsRow_le G o,fun i D=>(q i D).le o⟩
theorem YH {α:Type}(L:List α)(x d:α)(i:Nat):(L++[x]).getD i d=if i<L.length then L.getD i d else if i=L.length then x else d:=by
 simp only[Lg];by_cases h:i<L.length
 ·rw[List.getElem?_append_left h,if_pos h]
 ·rw[if_neg h,List.getElem?_append_right (by omega)];by_cases o:i=L.length
  ·subst o;simp
  ·rw[if_neg o,List.getElem?_eq_none (by simp;omega)];rfl
theorem CallsO.snoc {w0 w w':World}{B:Nat}{v':Value}{S:List CallS}{s:CallS}{cs:List (List Value)}{c:List Value}(I: ∀i,i<S.length→CallAt w0 B w (S.getD i .zero) (cs.getD i []))(D:cs.length=S.length)(O:CallAt w0 B w s c)
  (J:w'.ownsRow B 73 6 v' (S.length+1) (cs.flatten++c)) (q:w0.heap.size≤B) (o:KB B w w'):CallsO w0 B w' v' (S++[s]):=by
 refine⟨cs++[c],by simp[D],by simpa using J,fun i G=>?_⟩;simp only[List.length_append,List.length_singleton]at G;rw[YH,YH,D];by_cases h:i<S.length
 ·rw[if_pos h,if_pos h];exact(I i h).kb q o
 ·rw[if_neg h,if_neg h,if_pos (by omega),if_pos (by omega)];exact O.kb q o
theorem yO {W W':World}{B1 Z G J V s2 n1 Y:Nat}{O I:Value}{x1 U:List Value}(h1:W.ownsRow B1 G V O n1 x1)(D:W.ownsRow Z J s2 I Y U)(X:G≠J)(h:Spare (fun k=>O.ownBlock≠some k) W W'): ∀g,I.ownBlock=some g→W'.heap[g]? =W.heap[g]? :=by
 intro g o;refine h.block g (Qf D g o) fun e=>?_
 rcases h1.2 with⟨rfl, -⟩|⟨g1,k1,c1,rfl, -,p1, -⟩
 ·cases e
 rcases D.2 with⟨rfl, -⟩|⟨g2,k2,c2,rfl, -,q, -⟩
 ·cases o
 simp only[Value.ownBlock,Option.some.injEq]at e o;subst e o;rw[p1]at q;simp only[Option.some.injEq,Obj.cells.injEq]at q;exact X q.2.1
theorem QZ {W W':World}{B T s n:Nat}{v:Value}{D:List Value}(h:W.ownsRow B T s v n D)(I: ∀g,v.ownBlock=some g→W'.heap[g]? =W.heap[g]?):W'.ownsRow B T s v n D:=by
 refine⟨h.1,?_⟩;rcases h.2 with o|⟨g,q,G,rfl,O,o,J⟩
 ·exact .inl o
 ·exact .inr ⟨g,q,G,rfl,O,by rw[I g rfl];exact o,J⟩
theorem yM {W:World}{B T s n:Nat}{v:Value}{o:List Value}(h:W.ownsRow B T s v n o): ∃a n c,v= .slice a n c:=by
 rcases h.2 with⟨rfl, -⟩|⟨g,q,D,rfl, -⟩
 ·exact⟨_,_,_,rfl⟩
 ·exact⟨_,_,_,rfl⟩
def LevO (w0:World)(B:Nat)(w:World)(v:Value)(SS:List (List CallS)):Prop:=
 ∃vs:List Value,w.ownsRow B 111 1 v SS.length vs∧ ∀i,i<SS.length→CallsO w0 B w (vs.getD i undef) (SS.getD i [])
theorem LevO.nil (w0:World)(B:Nat)(w:World):LevO w0 B w (.slice none 0 0) []:=⟨[],Wo _ _ _ _,fun i o=>by simp at o⟩
theorem LevO.below {w0 w w':World}{B:Nat}{v:Value}{o:List (List CallS)}(h:LevO w0 B w v o)(q:w0.heap.size≤w.heap.size)(k:Below w.heap.size w w'):LevO w0 B w' v o:=by
 obtain⟨vs,I,D⟩:=h;exact⟨vs,qk I (fun g _ J=>k.block g J),fun i G=>(D i G).below q k⟩
theorem LevO.le {w0 w:World}{B b:Nat}{v:Value}{o:List (List CallS)}(h:LevO w0 B w v o)(q:b≤B):LevO w0 b w v o:=by
 obtain⟨vs,I,G⟩:=h;exact⟨vs,ownsRow_le I q,fun i D=>(G i D).le q⟩
theorem LevO.snoc {w0 w w':World}{B:Nat}{v v' x:Value}{o:List (List CallS)}{S:List CallS}{vs:List Value}(q:w.ownsRow B 111 1 v o.length vs)(O: ∀i,i<o.length→CallsO w0 B w (vs.getD i undef) (o.getD i []))(V:CallsO w0 B w x S)
  (D:w'.ownsRow B 111 1 v' (o.length+1) (vs++[x])) (Z:w0.heap.size≤B) (I:KB B w w') (G:Spare (fun k=>v.ownBlock≠some k) w w'):LevO w0 B w' v' (o++[S]):=by
 have U:vs.length=o.length:=by have:=q.1;simpa using this
 have one: ∀u S,CallsO w0 B w u S→CallsO w0 B w' u S:=fun u S h=>by
  refine h.kb Z I fun g X=>?_
  obtain⟨cs, -,J, -⟩:=h;exact yO q J (by decide) G g X
 refine⟨vs++[x],by simpa using D,fun i Y=>?_⟩;simp only[List.length_append,List.length_singleton]at Y;rw[YH,YH,U];by_cases h:i<o.length
 ·rw[if_pos h,if_pos h];exact one _ _ (O i h)
 ·rw[if_neg h,if_neg h,if_pos (by omega),if_pos (by omega)];exact one _ _ V
theorem J5:(Tryz.prog.info? 73).map (fun i=>(i.zero,i.size,i.bytes))=some (some (.agg #[.int .i64 0,.slice none 0 0,.slice none 0 0,.bool false,.int .i64 0,.slice none 0 0]),6,96):=by kernel_rfl
theorem Ja:(Tryz.prog.info? 111).map (fun i=>(i.zero,i.size,i.bytes))=some (some (.slice none 0 0),1,24):=by kernel_rfl
theorem jG {ops:Array Oper}{D:List Oper}{o:Oper}{q:Act}{w:World}{Q:Exit→Act→World→Prop}(hg:o.guard=none)(x:Operand)(ho:o.op= .buildSlice 111 1 #[(0,x)])(O X J U V I:Value)(hx:q.eval x= .agg #[O,X,J,U,V,I])
  (h:wpList Tryz.prog ops Q D (q.put o.dst (.slice (some ⟨w.heap.size,0,none⟩) 1 1)) (w.alloc (.cells #[O,X,J,U,V,I] 73))):wpList Tryz.prog ops Q (o::D) q w:=by
 obtain⟨ib,Y,Z,G, -⟩:=info_parts J5;exact wpList_buildSlice hg 111 73 1 _ ho #[O,X,J,U,V,I] ib _ Tryz.underlying111 Y Z (by rw[G];decide) (by rw[G];decide) (by rw[G,show Array.range (1*6)= #[0,1,2,3,4,5] by decide];simp[hx,Instr.fill,Value.cells]) h
theorem jF {ops:Array Oper}{q:List Oper}{o:Oper}{G:Act}{w:World}{Q:Exit→Act→World→Prop}(X:o.guard=none)(x:Operand)(U:o.op= .buildSlice 114 1 #[(0,x)])(a:Option Addr)(n k:Nat)(O:G.eval x= .slice a n k)
  (h:wpList Tryz.prog ops Q q (G.put o.dst (.slice (some ⟨w.heap.size,0,none⟩) 1 1)) (w.alloc (.cells #[.slice a n k] 111))):wpList Tryz.prog ops Q (o::q) G w:=by
 obtain⟨V,J,I,D, -⟩:=info_parts Ja;exact wpList_buildSlice X 114 111 1 _ U #[.slice a n k] V _ Tryz.underlying114 J I (by rw[D];decide) (by rw[D];decide) (by rw[D,show Array.range (1*1)= #[0] by decide];simp[O,Instr.fill,Value.cells]) h
def TreeV.callS (t:TreeV)(kz z1 z2:List Int)(row i:Nat)(la rt:Bool)(d:List Int):CallS:=⟨t.k,t.blk z1 z2 row i,Z1 row kz,la,t.outN rt,d⟩
def TreeV.rowC (t:TreeV)(kz z1 z2:List Int)(row:Nat)(rt:Bool)(L:List (List Int))(m:Nat):List CallS:=(List.range m).map fun i=>t.callS kz z1 z2 row i (decide (i+1=L.length)) rt (qQ L i)
theorem Zy (t:TreeV)(kz z1 z2:List Int)(row:Nat)(o:Bool)(L:List (List Int))(m:Nat):t.rowC kz z1 z2 row o L (m+1)=t.rowC kz z1 z2 row o L m++[t.callS kz z1 z2 row m (decide (m+1=L.length)) o (qQ L m)]:=by simp[TreeV.rowC,List.range_succ]
theorem qZ (t:TreeV)(kz z1 z2:List Int)(row:Nat)(o:Bool)(L:List (List Int))(m:Nat):(t.rowC kz z1 z2 row o L m).length=m:=by simp[TreeV.rowC]
theorem qbD {n:Nat}(zs:List Int)(o:1≤n):1≤(yp n zs).length∧(yp n zs).length≤zs.length+1:=by
 unfold yp;split
 ·exact⟨Nat.le_refl _,by simp⟩
 ·rename_i h;have q:=List.length_pos_iff.2 h;rw[zT];have:=YM (n:=zs.length) o
  have:=Z7 (d:=n) (show 1≤zs.length from q)
  omega
theorem qbC {n:Nat}(zs:List Int)(i:Nat):(qQ (yp n zs) i).length≤zs.length:=by
 unfold yp;split
 ·cases i<;>simp[qQ]
 ·unfold qQ qbo;rw[Lg,List.getElem?_map]
  cases(List.range (qY zs.length n))[i]? with
  | none=>simp
  | some j=>exact(qck n zs j).length_le
theorem qcj {big:Bool}{W:World}{o:Nat}{v:Nat→Nat}{I D G O x:Value}{J:Bool}{q:Int}(h:yX big W o v I D G J O q):yX big (W.setCell ⟨o,33,none⟩ x) o v I D G J x q:=heap_setCell_same W o 33 _ _ x h
theorem qgu {big:Bool}{W:World}{o:Nat}{v:Nat→Nat}{J G I q:Value}{O:Bool}{D x:Int}(h:yX big W o v J G I O q D):yX big (W.setCell ⟨o,34,none⟩ (.int .u64 x)) o v J G I O q x:=heap_setCell_same W o 34 _ _ _ h
theorem qfc {big:Bool}{W:World}{o:Nat}{v:Nat→Nat}{J G I D:Value}{O b:Bool}{q:Int}(h:yX big W o v J G I O D q):yX big (W.setCell ⟨o,13,none⟩ (.bool b)) o v J G I b D q:=heap_setCell_same W o 13 _ _ _ h
theorem qiU {W:World}{n b:Nat}{v:Value}{D:List Value}(h:W.ownsRow 0 5 1 v n D)(o:v.ownBlock=some b):b<W.heap.size:=by
 rcases h.2 with⟨rfl, -⟩|⟨g,G,I,rfl,J,q, -⟩
 ·cases o
 ·simp only[Value.ownBlock,Option.some.injEq]at o;subst o;exact(Ai q).1
theorem qcT (big:Bool)(v:Nat→Nat)(o I:List Int)(sa pe kv mv bv:Value)(la:Bool)(U:Int)(G:Nat)(w:World)(hN:yX big w G v sa pe kv la mv U)(hO:w.ownsRow 0 5 1 mv o.length (o.map qt))(hH:Hold w bv I)(hF:I≠[]→ ∀b,bv.ownBlock=some b→zl G mv b)(bd:(o.length:Int)+I.length≤140737488355328):
  Calls Tryz.prog 155 #[.pointer (some ⟨G,0,none⟩),bv] w fun e w'=>e= .returned (.tuple #[])∧(∃aa aC,yX big w' G v sa pe kv la aa aC∧w'.ownsRow 0 5 1 aa (o++I).length ((o++I).map qt))∧Spare (zl G mv) w w':=by
 obtain⟨i0,hi,aS,a5,aU⟩:=info_parts QD;have bg:G<w.heap.size:=(Ai hN).1;obtain⟨ba,bc,rfl,aG,a8⟩:=hH.slice;obtain⟨S,hS⟩:=Ex (zl G mv);rw[hS];have aO:=hid hN;have aJ:=hid hO;have au:=hid hH;have az:=hid hF;have ac:=hid hS;clear hN hO hH hF hS aG;have bn:(I.length:Int)≤140737488355328:=by omega
 go_enter Tryz.func155,Tryz.ntmps155
 go_wp2_with fail
 go_loopw [4] (fun i wr=> ∃j:Nat,i= .int .i64 (j:Nat)∧j≤I.length∧(∃aa,yX big wr G v sa pe kv la aa U∧wr.ownsRow 0 5 1 aa (o.length+j) ((o++I.take j).map qt)∧(aa.ownBlock=mv.ownBlock∨ ∀g,aa.ownBlock=some g→w.heap.size≤g))∧Spare S w wr) (fun i _=>I.length - (intOf i).toNat)
 case atStart=>exact⟨0,rfl,Nat.zero_le _,⟨mv,aO.out,by simpa using aJ.out,.inl rfl⟩,Spare.refl _ _⟩
 case round=>
  obtain⟨j,rfl,hj,⟨bp,hn,ho,hw⟩,al⟩:=hrel;obtain⟨a1,n1,c1,rfl⟩:=qu ho;have aP:n1=o.length+j:=yu ho;subst aP;have bm:G<wr.heap.size:=(Ai hn).1;have aj:=hid hn;have aw:=hid ho;have aq:=hid hw;have ah:=hid al;by_cases am:j<I.length
  case neg=>
   obtain rfl:j=I.length:=by omega
   have be:wr.cell? ⟨G,34,none⟩=some (.int .u64 U):=qd hn 34;have bf:=frozen_of_row wr G 34 _ _ hn;clear hn ho hw al;go_wp2
   go_end0
   have ax:=(But.refl G wr).set 34 (.int .u64 (IntKind.u64.wrap (U+(I.length:Int))));refine⟨rfl,⟨_,_,qgu aj.out,?_⟩,ah.out.trans (Spare.of_but ((But.refl G wr).set 34 _)) (fun b _ V=>by have Z:=ac.out;subst Z;exact V.1)⟩;have h1:=aw.out;rw[List.take_length]at h1;rw[List.length_append];exact Yc h1 ((But.refl G wr).set 34 _) aj.out (by decide)
  have ak:I≠[]:=fun e=>by rw[e]at am;simp at am
  have ar:Hold wr (.slice ba I.length bc) I:=zd au.out au.out rfl (Spare.refl S w) al (fun b V=>by have h4:=ac.out;subst h4;exact az.out ak b V) ak;obtain⟨bb,ad,rfl,q1,q2,q3,q4⟩:=J7 ar Br am;have bh:(j:Int)<I.length:=by omega
  have ax:o++I.take (j+1)=(o++I.take j)++[qr I j]:=by rw[jf am,List.append_assoc]
  have aM:=hid ax;have bj:=hid ar;obtain⟨z,hz⟩:=Ex (qr I j);rw[hz]at q2 q3 q4;have HZ:=hid hz;have Q2:=hid q2;have bi:(o.length:Int)+j<140737488355328:=by omega
  clear hn ho hw al ax ar hz q2;go_upto_region 3 with(fail)
  have an: ∀(W:World) (f:Bool),((f=false→Below wr.heap.size wr W)∧(f=true→W.heap[G]? =some (.cells (rN (kB big) v sa pe kv la (.slice a1 (o.length+j) c1) U) 254 (0,0))∧Spare (fun b=>(Value.slice a1 (o.length+j) c1).ownBlock≠some b) wr W))→W.cell? ⟨bb,ad+j,none⟩=some (.int .u8 z):=fun W f O=>by
   cases f
   ·exact((O.1 rfl).cell (p:=⟨bb,ad+j,none⟩) q1).trans Q2.out
   ·refine(World.cell?_of_block ((O.2 rfl).2.block bb q1 ?_)).trans Q2.out;have h4:=ac.out;subst h4;have h5:=(az.out ak bb rfl).2;rcases aq.out with h6|h6
    ·rw[h6];exact h5
    ·intro e;have:=h6 bb e;have h7:bb<w.heap.size:=Yx au.out ak rfl;omega
  have ao: ∀(W:World) (f:Bool),((f=false→Below wr.heap.size wr W)∧(f=true→W.heap[G]? =some (.cells (rN (kB big) v sa pe kv la (.slice a1 (o.length+j) c1) U) 254 (0,0))∧Spare (fun b=>(Value.slice a1 (o.length+j) c1).ownBlock≠some b) wr W))→bb<W.heap.size:=fun W f O=>by
   cases f
   ·exact Nat.lt_of_lt_of_le q1 (O.1 rfl).size
   ·exact Nat.lt_of_lt_of_le q1 (O.2 rfl).2.size
  have ae: ∀(W:World) (f:Bool),((f=false→Below wr.heap.size wr W)∧(f=true→W.heap[G]? =some (.cells (rN (kB big) v sa pe kv la (.slice a1 (o.length+j) c1) U) 254 (0,0))∧Spare (fun b=>(Value.slice a1 (o.length+j) c1).ownBlock≠some b) wr W))→wr.heap.size≤W.heap.size:=fun W f O=>by
   cases f
   ·exact(O.1 rfl).size
   ·exact(O.2 rfl).2.size
  refine yC (n:=11) (fun f W=>(f=false→Below wr.heap.size wr W)∧(f=true→W.heap[G]? =some (.cells (rN (kB big) v sa pe kv la (.slice a1 (o.length+j) c1) U) 254 (0,0))∧Spare (fun b=>(Value.slice a1 (o.length+j) c1).ownBlock≠some b) wr W)) 10 [.v 11 (.pointer (some ⟨G,0,none⟩)),.v 12 (.pointer (some ⟨G,0,none⟩)),.v 13 (.pointer (some ⟨G,0,none⟩)),.v 14 (.pointer (some ⟨G,33,none⟩)),.v 15 (.slice a1 (o.length+j) c1),.v 16 (.slice (some ⟨bb,ad,none⟩) I.length bc),.v 17 (.int .i64 (j:Nat)),.v 18 (.pointer (some ⟨bb,ad+j,none⟩)),.v 19 (.int .u8 z),.p 20 (fun u W=> ∃q,u= .slice (some ⟨q,0,none⟩) 1 1∧wr.heap.size≤q∧W.heap[q]? =some (.cells #[.int .u8 z] 5 (0,0))),.p 21 (fun u W=>W.ownsRow 0 5 1 u (o.length+(j+1)) ((o++I.take (j+1)).map qt)∧(u.ownBlock=(Value.slice a1 (o.length+j) c1).ownBlock∨ ∀g,u.ownBlock=some g→wr.heap.size≤g))] (by exact⟨(fun _ _ V _ h=>by obtain⟨q,e,h1,Z⟩:=h;exact⟨q,e,h1,qg Z V⟩),(fun _ _ V u h=>⟨qk h.1 (fun g _ hg=>V.block g hg),h.2⟩),trivial⟩) ⟨fun _=>Br.drew,fun h=>(by cases h)⟩ (fun f W W' h V=>⟨fun e=>(h.1 e).trans (V.mono (h.1 e).size),fun e=>⟨qg (h.2 e).1 V,(h.2 e).2.trans (Spare.of_below _ V) (fun _ _ h=>h)⟩⟩) ?_ ?_ ?_
  ·repeat' (with_reducible first|exact qz|refine qx ?_ ?_)
   all_goals try
    refine .inr ?_;intro A x W f X O hf J D K hK;have a0:=X.2 0 (by decide);conv at a0=>rhs;whnf
    have a1:=X.2 1 (by decide);conv at a1=>rhs;whnf
    have a4:=X.2 4 (by decide);conv at a4=>rhs;whnf
    simp only[QN,QV]at D;clear J X;first
    | go_simp
      exact hK _ _ BR rfl
    | have y0:W.cell? ⟨bb,ad+j,none⟩=some (.int .u8 z):=an W f O
      have y1:bb<W.heap.size:=ao W f O;go_simp
      exact hK _ _ BR rfl
   any_goals exact .inl rfl
   all_goals refine .inr ?_
   ·intro A x W f X O hf J _ K hK;have bl:=gw X J 3 14;clear J X;have aX:f=false:=hf (by kernel_rfl);have g0:=qg aj.out (O.1 aX);have c0:W.cell? ⟨G,33,none⟩=some (.slice a1 (o.length+j) c1):=qd g0 33;go_simp
    exact hK _ _ BR rfl
   ·intro A x W f X O hf J _ K hK;have aZ:=gw X J 8 19;clear J X;have a9:A.tmps[19]?.getD undef= .int .u8 z:=by rw[←Lh];exact aZ
    go_simp
    exact hK _ _ (Br.alloc Nl _) ⟨W.heap.size,rfl,ae W f O,Wn W _⟩
  ·intro A x W X O J K hK;have aI:=gw X J 4 15;have aW:(fun u W=> ∃q,u= .slice (some ⟨q,0,none⟩) 1 1∧wr.heap.size≤q∧W.heap[q]? =some (.cells #[.int .u8 z] 5 (0,0))) (x 20) W:=J ⟨9,.data⟩ (by simp) rfl;have a6:A.tmps.getD 20 undef=x 20:=X.1 20 (by decide);clear J X;have hB:=O.1 rfl;have ho:=qk aw.out (fun g _ hg=>hB.block g hg);have g0:=qg aj.out hB;obtain⟨qb,eq,bo,aK⟩:=aW;refine Yo _ _ 24 rfl 0 5 i0 (.int .u8 0) 1 Tryz.underlying24 hi aS a5 aU rfl (.slice a1 (o.length+j) c1) (o.length+j) ((o++I.take j).map qt) aI ho (.slice (some ⟨qb,0,none⟩) 1 1) 1 [.int .u8 z] (a6.trans eq) ⟨rfl,by simp[Value.oneCell'],.inr ⟨⟨qb,0,none⟩,1,rfl,Jk aK⟩⟩ (by unfold maxLen;omega) (by omega) (Nat.zero_le _) ?_;intro v' w' h1 Z Y;have h4:w'.heap[G]? =some (.cells (rN (kB big) v sa pe kv la (.slice a1 (o.length+j) c1) U) 254 (0,0)):=(Z.block G (Ai g0).1 (qc5 ho g0 (by decide))).trans g0;have h5:w'.ownsRow 0 5 1 v' (o.length+(j+1)) ((o++I.take (j+1)).map qt):=by rw[aM.out,HZ.out,List.map_append,←Nat.add_assoc];exact h1
   have h6: ∀b,(Value.slice a1 (o.length+j) c1).ownBlock=some b→b<wr.heap.size:=fun b V=>qiU aw.out V
   refine hK v' w' (fun h=>by cases h) ⟨fun h=>(by cases h),fun _=>⟨h4,(Spare.of_below _ hB).trans (Spare.of_grown Z) (fun _ _ h=>h)⟩⟩ ⟨.inr (fun _ h=>h),.inr (fun _ h=>h),.inr (fun _ h=>h),.inr (fun _ h=>h),.inr (fun _ h=>h),.inr (fun _ h=>h),.inr (fun _ h=>h),.inr (fun _ h=>h),.inr (fun _ h=>h),.inr (fun u h=>by obtain⟨q,e,k1,k2⟩:=h;exact⟨q,e,k1,(Z.block q (Ai k2).1 (fun e2=>by have:=h6 q e2.symm;omega)).trans k2⟩),.inl rfl,trivial⟩ ⟨h5,?_⟩;rcases Y with Y|Y
   ·exact .inl Y
   ·refine .inr fun g hg=>?_
    rw[Y]at hg;cases hg;exact hB.size
  intro x W O aE;obtain⟨aB,ab, -⟩:=aE;change (fun u W=> ∃q,u= .slice (some ⟨q,0,none⟩) 1 1∧wr.heap.size≤q∧W.heap[q]? =some (.cells #[.int .u8 z] 5 (0,0))) (x 20) W at aB
  change ((fun u W=>W.ownsRow 0 5 1 u (o.length+(j+1)) ((o++I.take (j+1)).map qt)∧(u.ownBlock=(Value.slice a1 (o.length+j) c1).ownBlock∨ ∀g,u.ownBlock=some g→wr.heap.size≤g))) (x 21) W at ab
  obtain⟨af,av⟩:=O.2 rfl;obtain⟨ag,ai⟩:=ab;obtain⟨a3,n3,c3,ab⟩:=qu ag;rw[ab]at ag ai;obtain rfl:n3=o.length+(j+1):=yu ag;refine qp ?_;simp only[QA,Act.put,Ls,ab];clear ab aB;have aN:W.cell? ⟨G,33,none⟩=some (.slice a1 (o.length+j) c1):=qd af 33;have aR:=frozen_of_row W G 33 _ _ af;have aY:G<W.heap.size:=(Ai af).1;have aA:=hid af;have aT:=hid ag;have aD:=hid ai;have aF:=hid av;clear af ag ai av O an ao ae;go_wp2_with fail
  refine qp ?_;go_wp2_with fail
  refine qp ?_;go_wp2_with fail
  refine qv ?_;have ay:But G W (W.setCell ⟨G,33,none⟩ (.slice a3 (o.length+(j+1)) c3)):=(But.refl G W).set 33 _;have aQ:=hid (show yX big (W.setCell ⟨G,33,none⟩ (.slice a3 (o.length+(j+1)) c3)) G v sa pe kv la (.slice a3 (o.length+(j+1)) c3) U from qcj aA.out);have aV:=hid (Yc aT.out ay aA.out (by decide));have aL:=hid (show(Value.slice a3 (o.length+(j+1)) c3).ownBlock=mv.ownBlock∨ ∀g,(Value.slice a3 (o.length+(j+1)) c3).ownBlock=some g→w.heap.size≤g from by
   rcases aD.out with Y|Y
   ·rw[Y];exact aq.out
   ·exact .inr fun g hg=>Nat.le_trans ah.out.size (Y g hg))
  have ap:Spare S w (W.setCell ⟨G,33,none⟩ (.slice a3 (o.length+(j+1)) c3)):=by
   refine(ah.out.trans aF.out ?_).trans (Spare.of_but ay) (fun b _ V=>by have Z:=ac.out;subst Z;exact V.1);intro b bk a7;have Z:=ac.out;subst Z;rcases aq.out with Y|Y
   ·rw[Y];exact a7.2
   ·intro e;have:=Y b e;omega
  have aH:=hid ap;clear ay ap aN aR aY;generalize W.setCell ⟨G,33,none⟩ (.slice a3 (o.length+(j+1)) c3)=W8 at*;go_wp2
  exact⟨⟨j+1,rfl,by omega,⟨_,aQ.out,aV.out,aL.out⟩,aH.out⟩,by simp[intOf];omega⟩
theorem qgq (big:Bool)(v:Nat→Nat)(a1 a2:Option Addr)(D G c1 c2:Nat)(kz:List Int)(kv:Value)(w:World)(hP:ParOk big v)(al:D≤sB big)(ak:G≤sB big)(hK:Hold w kv kz)(ae:kz.length≤mB big)(hk:kz.length=0∨kz.length=v 2):
  Calls Tryz.prog 153 #[.int .i64 (kB big),parN v (.slice a1 D c1) (.slice a2 G c2),kv] w fun e w'=> ∃o mv,e= .returned (.tuple #[.pointer (some ⟨o,0,none⟩),.int .i64 0])∧w.heap.size≤o∧yX big w' o v (.slice a1 D c1) (.slice a2 G c2) kv false mv 0∧w'.ownsRow w.heap.size 5 1 mv (yk (bB big) kz).length ((yk (bB big) kz).map qt)∧Below w.heap.size w w':=by
 obtain⟨I,aa⟩:=Ex w.heap.size;obtain⟨ka,kc,rfl,ao,au⟩:=hK.slice;have ac:=hid (Zj hP a1 a2 c1 c2 al ak);have ai:Below I w (w.alloc (.cells #[.int .i64 (v 1:Nat),.int .i64 (v 2:Nat),.int .i64 (v 3:Nat),.int .i64 (v 4:Nat),.int .u32 (v 5:Nat),.int .u64 (v 6:Nat),.int .u32 (v 7:Nat),.int .i64 (v 8:Nat),.int .i64 (v 9:Nat),.slice a1 D c1,.slice a2 G c2] 171)):=by rw[←aa];exact Br.alloc Nl _
 have U:=Wn w (.cells #[.int .i64 (v 1:Nat),.int .i64 (v 2:Nat),.int .i64 (v 3:Nat),.int .i64 (v 4:Nat),.int .u32 (v 5:Nat),.int .u64 (v 6:Nat),.int .u32 (v 7:Nat),.int .i64 (v 8:Nat),.int .i64 (v 9:Nat),.slice a1 D c1,.slice a2 G c2] 171);rw[aa]at U;have hq:(((kz.length:Int) != 0)&&((kz.length:Int) != (v 2:Nat)))=false:=by rcases hk with h|h<;>simp[h]
 obtain⟨q0,aB⟩: ∃q,((kz.length:Int) != 0)=q:=⟨_,rfl⟩;obtain⟨q1,aG⟩: ∃q,((kz.length:Int) != (v 2:Nat))=q:=⟨_,rfl⟩;rw[aB,aG]at hq;have ay:=hid hK;have ar:=hid ae;clear hP al ak hK ae hk ao au;unfold parN yT;unfold parN yT at ac;go_enter Tryz.func153,Tryz.ntmps153
 go_upto_region 1 with(fail)
 generalize w.alloc (.cells #[.int .i64 (v 1:Nat),.int .i64 (v 2:Nat),.int .i64 (v 3:Nat),.int .i64 (v 4:Nat),.int .u32 (v 5:Nat),.int .u64 (v 6:Nat),.int .u32 (v 7:Nat),.int .i64 (v 8:Nat),.int .i64 (v 9:Nat),.slice a1 D c1,.slice a2 G c2] 171)=wA at*;go_wp2_with ((with_reducible show wpList _ _ _ (Oper.mk _ (Op.load 171 _) _ _ _ _::_) _ _);refine wpList_load_row rfl 171 _ rfl I rfl _ _ _ _ U Tryz.underlying171 rfl (by kernel_rfl) ?_)
 refine(ac.out wA).mono ?_;rintro e O ⟨rfl,Z⟩;have Y:=qg U Z;have aA:=Z.size;have aq:I<wA.heap.size:=(Ai U).1;have ap:I<O.heap.size:=by omega
 have aj:Below I w O:=ai.trans (Z.mono (by omega));have aF:O.cell? ⟨I,1,none⟩=some (.int .i64 (v 2:Nat)):=qd Y 1;have af:=hid aj;have aC:=hid Y;clear Z ai U aj aA aq ac
 cases q0<;>cases q1<;>first|(exfalso;cases hq;done)|skip
 all_goals
  clear hq;go_upto_region 7 with((with_reducible show wpList _ _ _ (Oper.mk _ (Op.load 171 _) _ _ _ _::_) _ _);refine wpList_load_row rfl 171 _ rfl I rfl _ _ _ _ Y Tryz.underlying171 rfl (by kernel_rfl) ?_)
  change Code.wp _ _ _ _ (O.alloc (.cells (rN (kB big) v (.slice a1 D c1) (.slice a2 G c2) (.slice ka kz.length kc) false (.slice none 0 0) 0) 254))
  have X:yX big (O.alloc (.cells (rN (kB big) v (.slice a1 D c1) (.slice a2 G c2) (.slice ka kz.length kc) false (.slice none 0 0) 0) 254)) O.heap.size v (.slice a1 D c1) (.slice a2 G c2) (.slice ka kz.length kc) false (.slice none 0 0) 0:=Wn _ _;have ad:Below I w (O.alloc (.cells (rN (kB big) v (.slice a1 D c1) (.slice a2 G c2) (.slice ka kz.length kc) false (.slice none 0 0) 0) 254)):=af.out.alloc (by omega) _;obtain⟨o,aw⟩:=Ex O.heap.size;rw[aw]at X ap⊢;generalize (O.alloc (.cells (rN (kB big) v (.slice a1 D c1) (.slice a2 G c2) (.slice ka kz.length kc) false (.slice none 0 0) 0) 254))=W2 at*;have aD:=hid X;have aH:=hid ad;have ah:=(ay.out.below (aa▸ad));have av:=hid ah;have aI:o<W2.heap.size:=(Ai X).1;clear X ad ah aF aC Y af;go_wp2_with fail
  refine(qdR big kz _ W2 av.out ar.out).mono ?_;rintro e J ⟨mv,rfl,ho,ab⟩;obtain⟨ma,mn,mc,rfl⟩:=qu ho;have V:=qg aD.out ab;have aJ:J.cell? ⟨o,33,none⟩=some (.slice none 0 0):=qd V 33;have aK:=frozen_of_row J o 33 _ _ V;have aL:o<J.heap.size:=(Ai V).1;have am:Below I w J:=aH.out.trans (ab.mono (by omega));have an:But o J (J.setCell ⟨o,33,none⟩ (.slice ma mn mc)):=(But.refl o J).set 33 _;have ag:(J.setCell ⟨o,33,none⟩ (.slice ma mn mc)).ownsRow w.heap.size 5 1 (.slice ma mn mc) (yk (bB big) kz).length ((yk (bB big) kz).map qt):=by
   rcases ho.2 with⟨h2,h3⟩|⟨g,aE,ax,h2,h3,h4,h5⟩
   ·exact⟨ho.1,.inl ⟨h2,h3⟩⟩
   ·refine⟨ho.1,.inr ⟨g,aE,ax,h2,by omega,?_,h5⟩⟩;rw[an.block g (Ai h4).1 (by omega)];exact h4
  have HF:=hid (show yX big (J.setCell ⟨o,33,none⟩ (.slice ma mn mc)) o v (.slice a1 D c1) (.slice a2 G c2) (.slice ka kz.length kc) false (.slice ma mn mc) 0 from qcj V);have HO:=hid ag;have az:=hid (show Below I w (J.setCell ⟨o,33,none⟩ (.slice ma mn mc)) from am.setCell (by show I≤o;omega) _);clear ho ab V am an ag;go_wp2
  go_ret2
  exact⟨o,_,rfl,by omega,HF.out,HO.out,by rw[aa];exact az.out⟩
theorem zY {P:Program}{fn:Func}{p G I q:Tmp}{o:TypeId}(h:fn.results= #[.cell p o,.tmp G,.tmp I,.tmp q])(tmps:Array Value)(w:World)(g:Nat)(t:TypeId)(cs:Array Value)(fr:Nat×Nat)(d:TypeDesc)
  (J:tmps.getD p undef= .pointer (some ⟨g,0,none⟩)) (O:w.heap[g]? =some (.cells cs t fr))
  (U:P.underlying o=some d) (X:(match d with| .struct _| .array _ _=>true|_=>false)=true) (V:(P.info? o).map (·.size)=some cs.size):
  (results fn tmps).run P w= .ok (.tuple #[.agg cs,tmps.getD G undef,tmps.getD I undef,tmps.getD q undef]) w:=by
 have D:tmps[p]?.getD undef= .pointer (some ⟨g,0,none⟩):=by simpa using J
 simp[results,h,D,asAddr,run_loadVar_row w g t o cs fr d O U X V]
theorem qhz {n L k:Nat}(q:0<n)(o:k≤nbk n L):(n*k+n<L↔k<nbk n L):=by
 have I:=yY q L;have e:n*(k+1)=n*k+n:=Nat.mul_succ _ _;constructor
 ·intro h;refine Nat.lt_of_le_of_ne o fun D=>?_
  rw[D]at h;omega
 ·intro h;have J:n*(k+1)≤n*nbk n L:=Nat.mul_le_mul_left _ h;by_cases G:0<L
  ·have:=I.2.2 G;omega
  ·have:L=0:=by omega
   subst this;rw[qd5]at h;omega
theorem qbe (v:Nat→Nat)(z1 z2 o:List Int)(sa pe kv mv:Value)(la:Bool)(aj:Int)(I:Nat)(w:World)(hN:yX true w I v sa pe kv la mv aj)(hP:ParOk true v)(h1:Hold w sa z1)(h2:Hold w pe z2)(aK:z1.length≤16)(aI:z2.length≤16)(hM:Hold w mv o)(a3:(o.length:Int)≤281474976710656):
  Calls Tryz.prog 176 #[.pointer (some ⟨I,0,none⟩)] w fun e w'=>e= .returned (.tuple #[.agg (qi .u64 (qL (stZ true (h0Z true (QR true v z1 z2)) o (nbk 128 o.length)))),.int .u64 ((128*nbk 128 o.length:Nat):Int),.int .u64 0,.int .i64 ((128*nbk 128 o.length:Nat):Int)])∧Below w.heap.size w w':=by
 obtain⟨V,Z⟩:=Ex w.heap.size;obtain⟨ma,mc,rfl,aV,aN⟩:=hM.slice;have aC:I<V:=by rw[←Z];exact(Ai hN).1
 have aE:=fun(W:World) (O:Below V w W)=>qbX v z1 z2 sa pe kv (.slice ma o.length mc) la aj I W ((O.block I aC).trans hN) hP (h1.below (Z▸O)) (h2.below (Z▸O)) aK aI
 have aJ:=fun(W:World) (O:Below V w W)=>hM.below (Z▸O)
 have ae:=QS true (QR true v z1 z2);generalize h0Z true (QR true v z1 z2)=X at*;have aF:=fun k=>yN true ae o k
 obtain⟨Q,hQ⟩:=Ex (nbk 128 o.length);have ac:=fun(k:Nat) (hk:k≤Q)=>(hQ▸qhz (n:=128) (L:=o.length) (by decide) (hQ▸hk):(128*k+128<o.length↔k<Q))
 have bw:128*Q≤o.length:=by rw[←hQ];exact(yY (by decide) _).1
 rw[hQ];have aB:w.heap[I]? =some (.cells (rN 1 v sa pe kv la (.slice ma o.length mc) aj) 254 (0,0)):=hN;have av:=hid aE;have aR:=hid aJ;have ar:=hid aF;have aS:=hid ac;have aQ:=hid aB;have aX:=hid hM.1;clear hN aB aE aJ aF hQ ac hP h1 h2 hM aV aN aK aI;go_enter Tryz.func176,Tryz.ntmps176
 go_wp2_with fail
 have au:Below V w (w.alloc (.cells #[.int .u64 0,.int .u64 0,.int .u64 0,.int .u64 0,.int .u64 0,.int .u64 0,.int .u64 0,.int .u64 0,.int .u64 0,.int .u64 0,.int .u64 0,.int .u64 0,.int .u64 0,.int .u64 0,.int .u64 0,.int .u64 0] 252)):=by rw[←Z];exact Br.alloc Nl _
 have r0:(w.alloc (.cells #[.int .u64 0,.int .u64 0,.int .u64 0,.int .u64 0,.int .u64 0,.int .u64 0,.int .u64 0,.int .u64 0,.int .u64 0,.int .u64 0,.int .u64 0,.int .u64 0,.int .u64 0,.int .u64 0,.int .u64 0,.int .u64 0] 252)).heap[V]? =some (.cells #[.int .u64 0,.int .u64 0,.int .u64 0,.int .u64 0,.int .u64 0,.int .u64 0,.int .u64 0,.int .u64 0,.int .u64 0,.int .u64 0,.int .u64 0,.int .u64 0,.int .u64 0,.int .u64 0,.int .u64 0,.int .u64 0] 252 (0,0)):=by rw[←Z];exact Wn _ _
 have a4:(w.alloc (.cells #[.int .u64 0,.int .u64 0,.int .u64 0,.int .u64 0,.int .u64 0,.int .u64 0,.int .u64 0,.int .u64 0,.int .u64 0,.int .u64 0,.int .u64 0,.int .u64 0,.int .u64 0,.int .u64 0,.int .u64 0,.int .u64 0] 252)).heap.size=V+1:=by simp[Z]
 generalize (w.alloc (.cells #[.int .u64 0,.int .u64 0,.int .u64 0,.int .u64 0,.int .u64 0,.int .u64 0,.int .u64 0,.int .u64 0,.int .u64 0,.int .u64 0,.int .u64 0,.int .u64 0,.int .u64 0,.int .u64 0,.int .u64 0,.int .u64 0] 252))=W1 at*;refine(av.out W1 au).mono ?_;rintro e w2 ⟨rfl,am⟩;have aa:=am.size;have aL:=qg r0 am;have aH:=au.trans (am.mono (by omega));have R0:=hid aL;have aA:=hid aH;clear au r0 am aL aH av;have az:=hid (Qd (by decide) ae);clear ae;go_upto_region 2 with((with_reducible show wpList _ _ _ (Oper.mk none (Op.store 252 _ _) _ _ _ _::_) _ _);refine wpList_store_row rfl 252 _ _ rfl w2.heap.size (qi .u64 (qL X)) rfl rfl 252 _ (Wn _ _) (by rw[qf,az.out.1];kernel_rfl) (by rw[qf,az.out.1];rfl) qA ?_)
 refine qm ?_;intro W U;obtain⟨b6,ap⟩:=Ex w2.heap.size;have m6:W.heap[b6]? =some (.cells (qi .u64 (qL (stZ true X o 0))) 252 (0,0)):=by rw[U,←ap];exact setRow_heap _ _ _ _ _ _ (Wn _ _)
 have m0:W.heap[V]? =some (.cells #[.int .u64 0,.int .u64 0,.int .u64 0,.int .u64 0,.int .u64 0,.int .u64 0,.int .u64 0,.int .u64 0,.int .u64 0,.int .u64 0,.int .u64 0,.int .u64 0,.int .u64 0,.int .u64 0,.int .u64 0,.int .u64 0] 252 (0,0)):=by rw[U];exact(setRow_other (w2.alloc _) _ _ _ (by omega)).trans ((Bh _ _ _ (by omega)).trans R0.out)
 have ad:Below V w W:=by rw[U];exact below_setRow (aA.out.alloc (by omega) _) (by omega) _
 have mn:W.heap[I]? =some (.cells (rN 1 v sa pe kv la (.slice ma o.length mc) aj) 254 (0,0)):=(ad.block I aC).trans aQ.out;rw[ap];have bf:V<b6:=by omega
 have bn:b6<W.heap.size:=(Ai m6).1;have bk:W.cell? ⟨I,31,none⟩=some (.int .u64 0):=qd mn 31;have bq:W.cell? ⟨I,32,none⟩=some (.int .u64 0):=qd mn 32;have bg:W.cell? ⟨I,0,none⟩=some (.int .i64 1):=qd mn 0;have M6:=hid m6;have M0:=hid m0;have MN:=hid mn;have bc:=hid ad;clear U ap m6 m0 mn ad R0 aA a4 aa;go_wp2_with fail
 refine(YQ true _).mono ?_;rintro e w4 ⟨rfl,hw⟩;rw[hw];clear hw;rw[show((bB true:Nat):Int)=128 from rfl];go_wp2_with fail
 go_loopw [7,8,10] (fun lo hi at_ wr=> ∃k:Nat,lo= .int .u64 ((128*k:Nat):Int)∧hi= .int .u64 0∧at_= .int .i64 ((128*k:Nat):Int)∧k≤Q∧wr.heap[b6]? =some (.cells (qi .u64 (qL (stZ true X o k))) 252 (0,0))∧But b6 W wr) (fun _ _ at_ _=>o.length - (intOf at_).toNat)
 case atStart=>exact⟨0,rfl,rfl,rfl,Nat.zero_le _,M6.out,But.refl _ _⟩
 case round=>
  obtain⟨k,rfl,rfl,rfl,hk,ag,O⟩:=hrel;have aU:b6<wr.heap.size:=by have:=O.size;omega
  have hn:=(O.block I (by omega) (by omega)).trans MN.out;have aY:wr.cell? ⟨I,33,none⟩=some (.slice ma o.length mc):=qd hn 33;have a5:I<wr.heap.size:=by omega
  have aq:Below V w wr:=bc.out.trans (O.below (by omega) (by omega));have ab:=aS.out k hk;have ax:128*k≤128*Q:=Nat.mul_le_mul_left _ hk;obtain⟨s,hs⟩:=Ex (128*k);have aa:128*(k+1)=s+128:=by rw[←hs];exact Nat.mul_succ _ _
  have aP:=hid (show qac 128 o k=QC 128 ((o.drop s).take 128) by unfold qac;rw[hs]);have aG:=hid aa;have HS:=hid hs;rw[hs]at ab ax⊢;have al:=ar.out k;have af:stZ true X o (k+1)=yq true (stZ true X o k) (QC 128 ((o.drop s).take 128)) ((s+128:Nat):Int) false false:=by
   show yq true (stZ true X o k) (qac (bB true) o k) ((bB true*(k+1):Nat):Int) false false=_
   rw[show bB true=128 from rfl,aP.out,aa]
  have ak:=hid ag;have aZ:=hid O;have aM:=hid hn;have ah:=hid aq;have ai:=hid al;have ay:=hid af;clear hs aa;have bh:(s:Int)≤o.length:=by omega
  by_cases ac:k<Q
  case neg=>
   obtain rfl:k=Q:=by omega
   have bl: ¬((s:Int)+128<o.length):=by have:=ab;omega
   have n0:=(O.block V (by omega) (by omega)).trans M0.out;have J:=Qd (by decide) al;have bd:V<wr.heap.size:=by omega
   clear O hn aq al af ab ac ax;go_wp2_with (first|((with_reducible show wpList _ _ _ (Oper.mk (some 62) _ _ _ _ _::_) _ _);refine wpList_load_row rfl 252 _ rfl b6 rfl _ _ _ _ ag Tryz.underlying252 rfl (by rw[qf,J.1];kernel_rfl) ?_)|((with_reducible show wpList _ _ _ (Oper.mk none (Op.store 252 _ _) _ _ _ _::_) _ _);refine wpList_store_row rfl 252 _ _ rfl V (qi .u64 (qL (stZ true X o k))) rfl rfl 252 _ n0 (by rw[qf,J.1];kernel_rfl) (by rw[qf,J.1];rfl) qA ?_))
   exact Bp (zY rfl _ _ V 252 _ _ _ rfl (setRow_heap _ _ _ _ _ _ n0) Tryz.underlying252 rfl (by rw[qf,J.1];kernel_rfl)) rfl ⟨by rw[show((128:Int)*(k:Int))=(s:Int) from by have:=HS.out;omega];rfl,by first|exact below_setRow ah.out Nl _|(rw[Z];exact below_setRow ah.out Nl _)⟩
  have be:(s:Int)+128<o.length:=by have:=ab.2 ac;omega
  have ao:(s:Int)+128<9223372036854775808:=by omega
  have aT:=hid ao;clear ag O hn aq al af ab ax ao;go_wp2_with fail
  refine(jl s 128 (by omega) _).mono ?_;rintro e w4 ⟨rfl,hw⟩;rw[hw];clear hw;go_upto_region 8 with(fail)
  refine qD (n:=15) (w0:=wr) (B:=wr.heap.size) [.v 44 (.pointer (some ⟨I,0,none⟩)),.v 45 (.pointer (some ⟨I,0,none⟩)),.v 46 (.pointer (some ⟨I,0,none⟩)),.v 47 (.int .i64 1),.v 48 (.agg (qi .u64 (qL (stZ true X o k)))),.v 49 (.pointer (some ⟨I,0,none⟩)),.v 50 (.pointer (some ⟨I,0,none⟩)),.v 51 (.pointer (some ⟨I,33,none⟩)),.v 52 (.slice ma o.length mc),.v 53 (.int .i64 (s:Nat)),.v 54 (.int .i64 128),.p 55 (fun u W=>W.ownsRow wr.heap.size 5 1 u 128 ((QC 128 ((o.drop s).take 128)).map qt)),.v 56 (.int .u64 ((s:Int)+128)),.v 57 (.int .u64 0),.v 58 (.agg (qi .u64 (qL (stZ true X o (k+1)))))] (by exact⟨(fun _ _ _ h O=>qk h (fun g _ hg=>O.block g hg)),trivial⟩) Br.drew Nl ?_ ?_
  ·repeat' (with_reducible first|exact qz|refine qx ?_ ?_)
   all_goals try
    intro A x W G U Y q D K hK;have a0:=G.2 0 (by decide);conv at a0=>rhs;whnf
    have ba:=G.2 10 (by decide);conv at ba=>rhs;whnf
    have a9:=G.2 9 (by decide);conv at a9=>rhs;whnf
    have a7:=G.2 7 (by decide);conv at a7=>rhs;whnf
    have a8:=G.2 8 (by decide);conv at a8=>rhs;whnf
    simp only[QN,QV]at D;clear q G;go_simp
    exact hK _ _ BR rfl
   ·intro A x W G U Y q _ K hK;have bs:=gv G q 2 46;clear q G;have g0:=qg aM.out U;have c0:W.cell? ⟨I,0,none⟩=some (.int .i64 1):=qd g0 0;go_simp
    exact hK _ _ BR rfl
   ·intro A x W G U Y q _ K hK;have a6:=G.2 6 (by decide);conv at a6=>rhs;whnf
    clear q G;have g0:=qg ak.out U;have J:=Qd (by decide) ai.out;refine wp_load_row 252 _ rfl b6 a6 _ _ _ _ g0 Tryz.underlying252 rfl (by rw[qf,J.1];kernel_rfl) (hK _ _ Br rfl)
   ·intro A x W G U Y q _ K hK;have bj:=gv G q 7 51;clear q G;have g0:=qg aM.out U;have c0:W.cell? ⟨I,33,none⟩=some (.slice ma o.length mc):=qd g0 33;go_simp
    exact hK _ _ BR rfl
   ·intro A x W G U Y q _ K hK;have bt:=gv G q 8 52;have bm:=gv G q 9 53;have bv:=gv G q 10 54;clear q G;go_simp
    refine(jk o _ s 128 W (aR.out W (ah.out.trans (U.mono (by omega)))) (by decide) (by omega) a3).mono ?_;rintro e w' ⟨u,rfl,ho,O⟩;exact hK _ _ O (ownsRow_le ho Y)
   ·intro A x W G U Y q _ K hK;have bi:=gv G q 3 47;have bo:=gv G q 4 48;have bb:(fun u W=>W.ownsRow wr.heap.size 5 1 u 128 ((QC 128 ((o.drop s).take 128)).map qt)) (x 55) W:=q ⟨11,.data⟩ (by simp) rfl _ rfl;have bu:A.tmps.getD 55 undef=x 55:=G.1 55 (by decide);have br:=gv G q 12 56;have bp:=gv G q 13 57;clear q G;have aW:=yd (n:=128) (zs:=(o.drop s).take 128) (fun z hz=>aX.out z (List.mem_of_mem_drop (List.mem_of_mem_take hz)));go_simp
    rw[show(s:Int)+128=((s+128:Nat):Int) from rfl];refine(qbg (stZ true X o k) (QC 128 ((o.drop s).take 128)) ai.out _ (s+128) aT.out false false W (Q0 bb) aW (QI (List.length_take_le _ _))).mono ?_;rintro e w' ⟨rfl,O⟩;rw[←ay.out];exact hK _ _ O rfl
  intro x W U Y aO;obtain⟨aD, -⟩:=aO;change (fun u W=>W.ownsRow wr.heap.size 5 1 u 128 ((QC 128 ((o.drop s).take 128)).map qt)) (x 55) W at aD
  refine qp ?_;simp only[QA,Act.put,Ls];have an:=qg ak.out U;have J:=Qd (by decide) (ar.out (k+1));have aw:=Qd (by decide) ai.out;refine wpList_store_row rfl 252 _ _ rfl b6 (qi .u64 (qL (stZ true X o (k+1)))) rfl rfl 252 _ an (by rw[qf,J.1];kernel_rfl) (by rw[qf,qf,J.1,aw.1]) qA ?_;refine qv ?_;have HA:=hid (setRow_heap _ b6 _ (qi .u64 (qL (stZ true X o (k+1)))) _ _ an);have HC:=hid (aZ.out.trans ((But.of_below U).trans (But.of_setRow _ b6 (qi .u64 (qL (stZ true X o (k+1)))))));clear an J aw aD U Y aY a5 aU;go_wp2
  refine⟨⟨k+1,by rw[aG.out];rfl,rfl,by rw[aG.out];rfl,by omega,HA.out,HC.out⟩,?_⟩;simp[intOf];omega
theorem qaM (v:Nat→Nat)(z1 z2 o:List Int)(sa pe kv mv:Value)(la:Bool)(aj:Int)(I:Nat)(w:World)(hN:yX false w I v sa pe kv la mv aj)(hP:ParOk false v)(h1:Hold w sa z1)(h2:Hold w pe z2)(aK:z1.length≤8)(aI:z2.length≤8)(hM:Hold w mv o)(a3:(o.length:Int)≤281474976710656):
  Calls Tryz.prog 176 #[.pointer (some ⟨I,0,none⟩)] w fun e w'=>e= .returned (.tuple #[.agg (qi .u64 (qL (stZ false (h0Z false (QR false v z1 z2)) o (nbk 64 o.length)))),.int .u64 ((64*nbk 64 o.length:Nat):Int),.int .u64 0,.int .i64 ((64*nbk 64 o.length:Nat):Int)])∧Below w.heap.size w w':=by
 obtain⟨V,Z⟩:=Ex w.heap.size;obtain⟨ma,mc,rfl,aV,aN⟩:=hM.slice;have aC:I<V:=by rw[←Z];exact(Ai hN).1
 have aE:=fun(W:World) (O:Below V w W)=>qbj v z1 z2 sa pe kv (.slice ma o.length mc) la aj I W ((O.block I aC).trans hN) hP (h1.below (Z▸O)) (h2.below (Z▸O)) aK aI
 have aJ:=fun(W:World) (O:Below V w W)=>hM.below (Z▸O)
 have ae:=QS false (QR false v z1 z2);generalize h0Z false (QR false v z1 z2)=X at*;have aF:=fun k=>yN false ae o k
 obtain⟨Q,hQ⟩:=Ex (nbk 64 o.length);have ac:=fun(k:Nat) (hk:k≤Q)=>(hQ▸qhz (n:=64) (L:=o.length) (by decide) (hQ▸hk):(64*k+64<o.length↔k<Q))
 have bw:64*Q≤o.length:=by rw[←hQ];exact(yY (by decide) _).1
 rw[hQ];have aB:w.heap[I]? =some (.cells (rN 2 v sa pe kv la (.slice ma o.length mc) aj) 254 (0,0)):=hN;have av:=hid aE;have aR:=hid aJ;have ar:=hid aF;have aS:=hid ac;have aQ:=hid aB;have aX:=hid hM.1;clear hN aB aE aJ aF hQ ac hP h1 h2 hM aV aN aK aI;go_enter Tryz.func176,Tryz.ntmps176
 go_wp2_with fail
 have au:Below V w (w.alloc (.cells #[.int .u64 0,.int .u64 0,.int .u64 0,.int .u64 0,.int .u64 0,.int .u64 0,.int .u64 0,.int .u64 0,.int .u64 0,.int .u64 0,.int .u64 0,.int .u64 0,.int .u64 0,.int .u64 0,.int .u64 0,.int .u64 0] 252)):=by rw[←Z];exact Br.alloc Nl _
 have r0:(w.alloc (.cells #[.int .u64 0,.int .u64 0,.int .u64 0,.int .u64 0,.int .u64 0,.int .u64 0,.int .u64 0,.int .u64 0,.int .u64 0,.int .u64 0,.int .u64 0,.int .u64 0,.int .u64 0,.int .u64 0,.int .u64 0,.int .u64 0] 252)).heap[V]? =some (.cells #[.int .u64 0,.int .u64 0,.int .u64 0,.int .u64 0,.int .u64 0,.int .u64 0,.int .u64 0,.int .u64 0,.int .u64 0,.int .u64 0,.int .u64 0,.int .u64 0,.int .u64 0,.int .u64 0,.int .u64 0,.int .u64 0] 252 (0,0)):=by rw[←Z];exact Wn _ _
 have a4:(w.alloc (.cells #[.int .u64 0,.int .u64 0,.int .u64 0,.int .u64 0,.int .u64 0,.int .u64 0,.int .u64 0,.int .u64 0,.int .u64 0,.int .u64 0,.int .u64 0,.int .u64 0,.int .u64 0,.int .u64 0,.int .u64 0,.int .u64 0] 252)).heap.size=V+1:=by simp[Z]
 generalize (w.alloc (.cells #[.int .u64 0,.int .u64 0,.int .u64 0,.int .u64 0,.int .u64 0,.int .u64 0,.int .u64 0,.int .u64 0,.int .u64 0,.int .u64 0,.int .u64 0,.int .u64 0,.int .u64 0,.int .u64 0,.int .u64 0,.int .u64 0] 252))=W1 at*;refine(av.out W1 au).mono ?_;rintro e w2 ⟨rfl,am⟩;have aa:=am.size;have aL:=qg r0 am;have aH:=au.trans (am.mono (by omega));have R0:=hid aL;have aA:=hid aH;clear au r0 am aL aH av;have az:=hid (Qd (by decide) ae);clear ae;go_upto_region 2 with((with_reducible show wpList _ _ _ (Oper.mk none (Op.store 252 _ _) _ _ _ _::_) _ _);refine wpList_store_row rfl 252 _ _ rfl w2.heap.size (qi .u64 (qL X)) rfl rfl 252 _ (Wn _ _) (by rw[qf,az.out.1];kernel_rfl) (by rw[qf,az.out.1];rfl) qA ?_)
 refine qm ?_;intro W U;obtain⟨b6,ap⟩:=Ex w2.heap.size;have m6:W.heap[b6]? =some (.cells (qi .u64 (qL (stZ false X o 0))) 252 (0,0)):=by rw[U,←ap];exact setRow_heap _ _ _ _ _ _ (Wn _ _)
 have m0:W.heap[V]? =some (.cells #[.int .u64 0,.int .u64 0,.int .u64 0,.int .u64 0,.int .u64 0,.int .u64 0,.int .u64 0,.int .u64 0,.int .u64 0,.int .u64 0,.int .u64 0,.int .u64 0,.int .u64 0,.int .u64 0,.int .u64 0,.int .u64 0] 252 (0,0)):=by rw[U];exact(setRow_other (w2.alloc _) _ _ _ (by omega)).trans ((Bh _ _ _ (by omega)).trans R0.out)
 have ad:Below V w W:=by rw[U];exact below_setRow (aA.out.alloc (by omega) _) (by omega) _
 have mn:W.heap[I]? =some (.cells (rN 2 v sa pe kv la (.slice ma o.length mc) aj) 254 (0,0)):=(ad.block I aC).trans aQ.out;rw[ap];have bf:V<b6:=by omega
 have bn:b6<W.heap.size:=(Ai m6).1;have bk:W.cell? ⟨I,31,none⟩=some (.int .u64 0):=qd mn 31;have bq:W.cell? ⟨I,32,none⟩=some (.int .u64 0):=qd mn 32;have bg:W.cell? ⟨I,0,none⟩=some (.int .i64 2):=qd mn 0;have M6:=hid m6;have M0:=hid m0;have MN:=hid mn;have bc:=hid ad;clear U ap m6 m0 mn ad R0 aA a4 aa;go_wp2_with fail
 refine(YQ false _).mono ?_;rintro e w4 ⟨rfl,hw⟩;rw[hw];clear hw;rw[show((bB false:Nat):Int)=64 from rfl];go_wp2_with fail
 go_loopw [7,8,10] (fun lo hi at_ wr=> ∃k:Nat,lo= .int .u64 ((64*k:Nat):Int)∧hi= .int .u64 0∧at_= .int .i64 ((64*k:Nat):Int)∧k≤Q∧wr.heap[b6]? =some (.cells (qi .u64 (qL (stZ false X o k))) 252 (0,0))∧But b6 W wr) (fun _ _ at_ _=>o.length - (intOf at_).toNat)
 case atStart=>exact⟨0,rfl,rfl,rfl,Nat.zero_le _,M6.out,But.refl _ _⟩
 case round=>
  obtain⟨k,rfl,rfl,rfl,hk,ag,O⟩:=hrel;have aU:b6<wr.heap.size:=by have:=O.size;omega
  have hn:=(O.block I (by omega) (by omega)).trans MN.out;have aY:wr.cell? ⟨I,33,none⟩=some (.slice ma o.length mc):=qd hn 33;have a5:I<wr.heap.size:=by omega
  have aq:Below V w wr:=bc.out.trans (O.below (by omega) (by omega));have ab:=aS.out k hk;have ax:64*k≤64*Q:=Nat.mul_le_mul_left _ hk;obtain⟨s,hs⟩:=Ex (64*k);have aa:64*(k+1)=s+64:=by rw[←hs];exact Nat.mul_succ _ _
  have aP:=hid (show qac 64 o k=QC 64 ((o.drop s).take 64) by unfold qac;rw[hs]);have aG:=hid aa;have HS:=hid hs;rw[hs]at ab ax⊢;have al:=ar.out k;have af:stZ false X o (k+1)=yq false (stZ false X o k) (QC 64 ((o.drop s).take 64)) ((s+64:Nat):Int) false false:=by
   show yq false (stZ false X o k) (qac (bB false) o k) ((bB false*(k+1):Nat):Int) false false=_
   rw[show bB false=64 from rfl,aP.out,aa]
  have ak:=hid ag;have aZ:=hid O;have aM:=hid hn;have ah:=hid aq;have ai:=hid al;have ay:=hid af;clear hs aa;have bh:(s:Int)≤o.length:=by omega
  by_cases ac:k<Q
  case neg=>
   obtain rfl:k=Q:=by omega
   have bl: ¬((s:Int)+64<o.length):=by have:=ab;omega
   have n0:=(O.block V (by omega) (by omega)).trans M0.out;have J:=Qd (by decide) al;have bd:V<wr.heap.size:=by omega
   clear O hn aq al af ab ac ax;go_wp2_with (first|((with_reducible show wpList _ _ _ (Oper.mk (some 62) _ _ _ _ _::_) _ _);refine wpList_load_row rfl 252 _ rfl b6 rfl _ _ _ _ ag Tryz.underlying252 rfl (by rw[qf,J.1];kernel_rfl) ?_)|((with_reducible show wpList _ _ _ (Oper.mk none (Op.store 252 _ _) _ _ _ _::_) _ _);refine wpList_store_row rfl 252 _ _ rfl V (qi .u64 (qL (stZ false X o k))) rfl rfl 252 _ n0 (by rw[qf,J.1];kernel_rfl) (by rw[qf,J.1];rfl) qA ?_))
   exact Bp (zY rfl _ _ V 252 _ _ _ rfl (setRow_heap _ _ _ _ _ _ n0) Tryz.underlying252 rfl (by rw[qf,J.1];kernel_rfl)) rfl ⟨by rw[show((64:Int)*(k:Int))=(s:Int) from by have:=HS.out;omega];rfl,by first|exact below_setRow ah.out Nl _|(rw[Z];exact below_setRow ah.out Nl _)⟩
  have be:(s:Int)+64<o.length:=by have:=ab.2 ac;omega
  have ao:(s:Int)+64<9223372036854775808:=by omega
  have aT:=hid ao;clear ag O hn aq al af ab ax ao;go_wp2_with fail
  refine(jl s 64 (by omega) _).mono ?_;rintro e w4 ⟨rfl,hw⟩;rw[hw];clear hw;go_upto_region 8 with(fail)
  refine qD (n:=15) (w0:=wr) (B:=wr.heap.size) [.v 44 (.pointer (some ⟨I,0,none⟩)),.v 45 (.pointer (some ⟨I,0,none⟩)),.v 46 (.pointer (some ⟨I,0,none⟩)),.v 47 (.int .i64 2),.v 48 (.agg (qi .u64 (qL (stZ false X o k)))),.v 49 (.pointer (some ⟨I,0,none⟩)),.v 50 (.pointer (some ⟨I,0,none⟩)),.v 51 (.pointer (some ⟨I,33,none⟩)),.v 52 (.slice ma o.length mc),.v 53 (.int .i64 (s:Nat)),.v 54 (.int .i64 64),.p 55 (fun u W=>W.ownsRow wr.heap.size 5 1 u 64 ((QC 64 ((o.drop s).take 64)).map qt)),.v 56 (.int .u64 ((s:Int)+64)),.v 57 (.int .u64 0),.v 58 (.agg (qi .u64 (qL (stZ false X o (k+1)))))] (by exact⟨(fun _ _ _ h O=>qk h (fun g _ hg=>O.block g hg)),trivial⟩) Br.drew Nl ?_ ?_
  ·repeat' (with_reducible first|exact qz|refine qx ?_ ?_)
   all_goals try
    intro A x W G U Y q D K hK;have a0:=G.2 0 (by decide);conv at a0=>rhs;whnf
    have ba:=G.2 10 (by decide);conv at ba=>rhs;whnf
    have a9:=G.2 9 (by decide);conv at a9=>rhs;whnf
    have a7:=G.2 7 (by decide);conv at a7=>rhs;whnf
    have a8:=G.2 8 (by decide);conv at a8=>rhs;whnf
    simp only[QN,QV]at D;clear q G;go_simp
    exact hK _ _ BR rfl
   ·intro A x W G U Y q _ K hK;have bs:=gv G q 2 46;clear q G;have g0:=qg aM.out U;have c0:W.cell? ⟨I,0,none⟩=some (.int .i64 2):=qd g0 0;go_simp
    exact hK _ _ BR rfl
   ·intro A x W G U Y q _ K hK;have a6:=G.2 6 (by decide);conv at a6=>rhs;whnf
    clear q G;have g0:=qg ak.out U;have J:=Qd (by decide) ai.out;refine wp_load_row 252 _ rfl b6 a6 _ _ _ _ g0 Tryz.underlying252 rfl (by rw[qf,J.1];kernel_rfl) (hK _ _ Br rfl)
   ·intro A x W G U Y q _ K hK;have bj:=gv G q 7 51;clear q G;have g0:=qg aM.out U;have c0:W.cell? ⟨I,33,none⟩=some (.slice ma o.length mc):=qd g0 33;go_simp
    exact hK _ _ BR rfl
   ·intro A x W G U Y q _ K hK;have bt:=gv G q 8 52;have bm:=gv G q 9 53;have bv:=gv G q 10 54;clear q G;go_simp
    refine(jk o _ s 64 W (aR.out W (ah.out.trans (U.mono (by omega)))) (by decide) (by omega) a3).mono ?_;rintro e w' ⟨u,rfl,ho,O⟩;exact hK _ _ O (ownsRow_le ho Y)
   ·intro A x W G U Y q _ K hK;have bi:=gv G q 3 47;have bo:=gv G q 4 48;have bb:(fun u W=>W.ownsRow wr.heap.size 5 1 u 64 ((QC 64 ((o.drop s).take 64)).map qt)) (x 55) W:=q ⟨11,.data⟩ (by simp) rfl _ rfl;have bu:A.tmps.getD 55 undef=x 55:=G.1 55 (by decide);have br:=gv G q 12 56;have bp:=gv G q 13 57;clear q G;have aW:=yd (n:=64) (zs:=(o.drop s).take 64) (fun z hz=>aX.out z (List.mem_of_mem_drop (List.mem_of_mem_take hz)));go_simp
    rw[show(s:Int)+64=((s+64:Nat):Int) from rfl];refine(qap (stZ false X o k) (QC 64 ((o.drop s).take 64)) ai.out _ (s+64) aT.out false false W (Q0 bb) aW (QI (List.length_take_le _ _))).mono ?_;rintro e w' ⟨rfl,O⟩;rw[←ay.out];exact hK _ _ O rfl
  intro x W U Y aO;obtain⟨aD, -⟩:=aO;change (fun u W=>W.ownsRow wr.heap.size 5 1 u 64 ((QC 64 ((o.drop s).take 64)).map qt)) (x 55) W at aD
  refine qp ?_;simp only[QA,Act.put,Ls];have an:=qg ak.out U;have J:=Qd (by decide) (ar.out (k+1));have aw:=Qd (by decide) ai.out;refine wpList_store_row rfl 252 _ _ rfl b6 (qi .u64 (qL (stZ false X o (k+1)))) rfl rfl 252 _ an (by rw[qf,J.1];kernel_rfl) (by rw[qf,qf,J.1,aw.1]) qA ?_;refine qv ?_;have HA:=hid (setRow_heap _ b6 _ (qi .u64 (qL (stZ false X o (k+1)))) _ _ an);have HC:=hid (aZ.out.trans ((But.of_below U).trans (But.of_setRow _ b6 (qi .u64 (qL (stZ false X o (k+1)))))));clear an J aw aD U Y aY a5 aU;go_wp2
  refine⟨⟨k+1,by rw[aG.out];rfl,rfl,by rw[aG.out];rfl,by omega,HA.out,HC.out⟩,?_⟩;simp[intOf];omega
theorem Zo (n:Nat){h g:List Int}: ∀i,(∀j,j<i→wd h j=wd g j)→qN n h i=qN n g i
 | 0,_=>rfl
 | i+1,H=>by rw[qN,qN,Zo n i (fun j o=>H j (by omega)),H i (by omega)]
theorem qdP (v:Nat→Nat)(z1 z2 q:List Int)(sa pe kv mv:Value)(Z:Bool)(ac:Int)(I:Nat)(w:World)(hN:yX true w I v sa pe kv Z mv ac)(hP:ParOk true v)(h1:Hold w sa z1)(h2:Hold w pe z2)(aB:z1.length≤16)(az:z2.length≤16)(hM:Hold w mv q)(av:(q.length:Int)≤281474976710656):
  Calls Tryz.prog 156 #[.pointer (some ⟨I,0,none⟩)] w fun e w'=> ∃u,e= .returned u∧w'.ownsRow w.heap.size 5 1 u 64 ((zc true (h0Z true (QR true v z1 z2)) q Z).map qt)∧Below w.heap.size w w':=by
 obtain⟨b0,ad⟩:=Ex w.heap.size;have ao:=qbe v z1 z2 q sa pe kv mv Z ac I w hN hP h1 h2 aB az hM av;obtain⟨ma,mc,rfl,aK,aE⟩:=hM.slice;have aN:I<b0:=by rw[←ad];exact(Ai hN).1
 have aA:=fun(W:World) (X:Below b0 w W)=>hM.below (ad▸X)
 have af:=QS true (QR true v z1 z2);generalize h0Z true (QR true v z1 z2)=H0 at*;have ae:=yN true af q (nbk 128 q.length);have ah:=yY (n:=128) (by decide) q.length;have an:zc true H0 q Z=qN 8 (yq true (stZ true H0 q (nbk 128 q.length)) (QC 128 ((q.drop (128*nbk 128 q.length)).take 128)) (q.length:Int) true Z) 8:=rfl;rw[an];obtain⟨ST,am⟩:=Ex (stZ true H0 q (nbk 128 q.length));obtain⟨s,hs⟩:=Ex (128*nbk 128 q.length);rw[am,hs]at ao⊢;rw[am]at ae;rw[hs]at ah;obtain⟨R,hR⟩:=Ex (yq true ST (QC 128 ((q.drop s).take 128)) (q.length:Int) true Z);have al:Words 64 8 R:=by rw[←hR];exact QQ true ae _ _ _ _
 rw[hR];have ax:qN 8 R 8=qN 8 (qL R) 8:=Zo 8 8 (fun j hj=>(qaV al.1 hj).symm);rw[ax];have aV:s≤q.length:=ah.1;have au:w.heap[I]? =some (.cells (rN 1 v sa pe kv Z (.slice ma q.length mc) ac) 254 (0,0)):=hN;have aw:=hM.1;have ap:=hid ao;have aJ:=hid aA;have aj:=hid ae;have aM:=hid hR;have aF:=hid al;have aI:=hid au;have aG:=hid aw;clear an ax am hs ah hR al ao aA ae hN au aw af hP h1 h2 hM aK aE aB az;go_enter Tryz.func156,Tryz.ntmps156
 go_wp2_with fail
 refine ap.out.mono ?_;rintro e w2 ⟨rfl,aq⟩;have ab:=hid (Qd (by decide) aj.out);have ag:=aq.size;have aC:=hid aq;clear aq;go_upto_region 2 with((with_reducible show wpList _ _ _ (Oper.mk none (Op.store 252 _ _) _ _ _ _::_) _ _);refine wpList_store_row rfl 252 _ _ rfl w2.heap.size (qi .u64 (qL ST)) rfl rfl 252 _ (Wn _ _) (by rw[qf,ab.out.1];kernel_rfl) (by rw[qf,ab.out.1];rfl) qA ?_)
 refine qm ?_;intro V J;obtain⟨b3,ak⟩:=Ex w2.heap.size;have m3:V.heap[b3]? =some (.cells (qi .u64 (qL ST)) 252 (0,0)):=by rw[J,←ak];exact setRow_heap _ _ _ _ _ _ (Wn _ _)
 have aa:Below b0 w V:=by rw[J,←ad];exact below_setRow (aC.out.alloc ag _) ag _
 have mn:V.heap[I]? =some (.cells (rN 1 v sa pe kv Z (.slice ma q.length mc) ac) 254 (0,0)):=(aa.block I aN).trans aI.out;rw[ak];have aT:b0≤b3:=by omega
 have ba:b3<V.heap.size:=(Ai m3).1;have bh:I<V.heap.size:=by omega
 have aZ:V.cell? ⟨I,33,none⟩=some (.slice ma q.length mc):=qd mn 33;have M3:=hid m3;have MN:=hid mn;have ai:=hid aa;clear J ak m3 mn aa aC ag ap;have bf:(s:Int)≤q.length:=by omega
 have ar:((q.length:Int) - s)=((q.length - s:Nat):Int):=by omega
 have aQ:IntKind.u64.wrap ((q.length:Int) - s)=((q.length - s:Nat):Int):=by rw[ar];exact u64_wrap_id _ (by omega) (by omega)
 have bi:=hid ar;clear ar;go_wp2_with fail
 refine(jl s (q.length - s) (by omega) _).mono ?_;rintro e w4 ⟨rfl,hw⟩;rw[hw];clear hw;rw[show s+(q.length - s)=q.length by omega];clear aQ;go_upto_region 3 with(fail)
 refine qD (n:=29) (w0:=V) (B:=V.heap.size) [.v 29 (.pointer (some ⟨I,0,none⟩)),.v 30 (.pointer (some ⟨I,0,none⟩)),.v 31 (.pointer (some ⟨I,0,none⟩)),.v 32 (.int .i64 1),.v 33 (.pointer (some ⟨I,0,none⟩)),.v 34 (.pointer (some ⟨I,0,none⟩)),.v 35 (.pointer (some ⟨I,0,none⟩)),.v 36 (.int .i64 1),.v 37 (.agg (qi .u64 (qL ST))),.v 38 (.pointer (some ⟨I,0,none⟩)),.v 39 (.pointer (some ⟨I,0,none⟩)),.v 40 (.pointer (some ⟨I,33,none⟩)),.v 41 (.slice ma q.length mc),.v 42 (.int .i64 (s:Nat)),.v 43 (.pointer (some ⟨I,0,none⟩)),.v 44 (.pointer (some ⟨I,0,none⟩)),.v 45 (.pointer (some ⟨I,0,none⟩)),.v 46 (.int .i64 1),.v 47 (.int .i64 128),.p 48 (fun u W=>W.ownsRow V.heap.size 5 1 u 128 ((QC 128 ((q.drop s).take 128)).map qt)),.v 49 (.int .u64 (q.length:Nat)),.v 50 (.int .u64 0),.v 51 (.pointer (some ⟨I,0,none⟩)),.v 52 (.pointer (some ⟨I,0,none⟩)),.v 53 (.pointer (some ⟨I,13,none⟩)),.v 54 (.bool Z),.v 55 (.agg (qi .u64 (qL R))),.p 56 (fun u W=>W.ownsRow V.heap.size 5 1 u 64 ((qN 8 (qL R) 8).map qt)),.p 2 (fun u W=>W.ownsRow V.heap.size 5 1 u 64 ((qN 8 (qL R) 8).map qt))] (by exact⟨(fun _ _ _ h X=>qk h (fun g _ hg=>X.block g hg)),(fun _ _ _ h X=>qk h (fun g _ hg=>X.block g hg)),(fun _ _ _ h X=>qk h (fun g _ hg=>X.block g hg)),trivial⟩) Br.drew Nl ?_ ?_
 ·repeat' (with_reducible first|exact qz|refine qx ?_ ?_)
  all_goals try
   intro A x W G J O o D K U;have a0:=G.2 0 (by decide);conv at a0=>rhs;whnf
   have a6:=G.2 6 (by decide);conv at a6=>rhs;whnf
   have a4:=G.2 4 (by decide);conv at a4=>rhs;whnf
   have a5:=G.2 5 (by decide);conv at a5=>rhs;whnf
   simp only[QN,QV]at D;clear o G;go_simp
   exact U _ _ BR rfl
  ·intro A x W G J O o _ K U;have bm:=gv G o 2 31;clear o G;have Y:=qg MN.out J;have c0:W.cell? ⟨I,0,none⟩=some (.int .i64 1):=qd Y 0;go_simp
   exact U _ _ BR rfl
  ·intro A x W G J O o _ K U;have aX:=gv G o 6 35;clear o G;have Y:=qg MN.out J;have c0:W.cell? ⟨I,0,none⟩=some (.int .i64 1):=qd Y 0;go_simp
   exact U _ _ BR rfl
  ·intro A x W G J O o _ K U;have a3:=G.2 3 (by decide);conv at a3=>rhs;whnf
   clear o G;have Y:=qg M3.out J;refine wp_load_row 252 _ rfl b3 a3 _ _ _ _ Y Tryz.underlying252 rfl (by rw[qf,ab.out.1];kernel_rfl) (U _ _ Br rfl)
  ·intro A x W G J O o _ K U;have bb:=gv G o 11 40;clear o G;have Y:=qg MN.out J;have c0:W.cell? ⟨I,33,none⟩=some (.slice ma q.length mc):=qd Y 33;go_simp
   exact U _ _ BR rfl
  ·intro A x W G J O o _ K U;have aY:=gv G o 16 45;clear o G;have Y:=qg MN.out J;have c0:W.cell? ⟨I,0,none⟩=some (.int .i64 1):=qd Y 0;go_simp
   exact U _ _ BR rfl
  ·intro A x W G J O o _ K U;have be:=gv G o 17 46;clear o G;go_simp
   refine(YQ true _).mono ?_;rintro e w' ⟨rfl,hw⟩;exact U _ _ (by rw[hw];exact Below.refl _ _) rfl
  ·intro A x W G J O o _ K U;have aU:=gv G o 12 41;have bl:=gv G o 13 42;have aW:=gv G o 18 47;clear o G;go_simp
   refine(jk q _ s 128 W (aJ.out W (ai.out.trans (J.mono (by omega)))) (by decide) (by omega) av).mono ?_;rintro e w' ⟨u,rfl,ho,X⟩;exact U _ _ X (ownsRow_le ho O)
  ·intro A x W G J O o _ K U;have a8:=gv G o 24 53;clear o G;have Y:=qg MN.out J;have c0:W.cell? ⟨I,13,none⟩=some (.bool Z):=qd Y 13;go_simp
   exact U _ _ BR rfl
  ·intro A x W G J O o _ K U;have a7:=gv G o 7 36;have bd:=gv G o 8 37;have aO:(fun u W=>W.ownsRow V.heap.size 5 1 u 128 ((QC 128 ((q.drop s).take 128)).map qt)) (x 48) W:=o ⟨19,.data⟩ (by simp) rfl _ rfl;have a9:A.tmps.getD 48 undef=x 48:=G.1 48 (by decide);have bc:=gv G o 20 49;have bg:=gv G o 21 50;have bj:=gv G o 25 54;clear o G;have aL:=yd (n:=128) (zs:=(q.drop s).take 128) (fun z hz=>aG.out z (List.mem_of_mem_drop (List.mem_of_mem_take hz)));go_simp
   refine(qbg ST (QC 128 ((q.drop s).take 128)) aj.out _ q.length (by omega) true Z W (Q0 aO) aL (QI (List.length_take_le _ _))).mono ?_;rintro e w' ⟨rfl,X⟩;rw[aM.out];exact U _ _ X rfl
  ·intro A x W G J O o _ K U;have bn:=gv G o 3 32;have bk:=gv G o 26 55;clear o G;go_simp
   refine(qar true (qL R) (Qd (by decide) aF.out) _).mono ?_;rintro e w' ⟨u,rfl,ho,X⟩;exact U _ _ X (ownsRow_le ho O)
  ·intro A x W G J O o _ K U;have aR:(fun u W=>W.ownsRow V.heap.size 5 1 u 64 ((qN 8 (qL R) 8).map qt)) (x 56) W:=o ⟨27,.data⟩ (by simp) rfl _ rfl;have aS:A.tmps.getD 56 undef=x 56:=G.1 56 (by decide);clear o G;go_simp
   exact U _ _ Br (aS▸aR)
 intro x W J O aH;obtain⟨aD,ay,e2, -⟩:=aH;change (fun u W=>W.ownsRow V.heap.size 5 1 u 128 ((QC 128 ((q.drop s).take 128)).map qt)) (x 48) W at aD
 change (fun u W=>W.ownsRow V.heap.size 5 1 u 64 ((qN 8 (qL R) 8).map qt)) (x 56) W at ay
 change (fun u W=>W.ownsRow V.heap.size 5 1 u 64 ((qN 8 (qL R) 8).map qt)) (x 2) W at e2
 refine qv ?_;simp only[QA,Act.put,Ls];have E2:=hid (ownsRow_le e2 (show w.heap.size≤V.heap.size by omega));have aP:=hid (ai.out.trans (J.mono (by omega)));clear aD ay e2 J O;go_wp2
 go_ret
 exact⟨_,rfl,E2.out,by rw[ad];exact aP.out⟩
theorem qcY (v:Nat→Nat)(z1 z2 q:List Int)(sa pe kv mv:Value)(Z:Bool)(ac:Int)(I:Nat)(w:World)(hN:yX false w I v sa pe kv Z mv ac)(hP:ParOk false v)(h1:Hold w sa z1)(h2:Hold w pe z2)(aB:z1.length≤8)(az:z2.length≤8)(hM:Hold w mv q)(av:(q.length:Int)≤281474976710656):
  Calls Tryz.prog 156 #[.pointer (some ⟨I,0,none⟩)] w fun e w'=> ∃u,e= .returned u∧w'.ownsRow w.heap.size 5 1 u 32 ((zc false (h0Z false (QR false v z1 z2)) q Z).map qt)∧Below w.heap.size w w':=by
 obtain⟨b0,ad⟩:=Ex w.heap.size;have ao:=qaM v z1 z2 q sa pe kv mv Z ac I w hN hP h1 h2 aB az hM av;obtain⟨ma,mc,rfl,aK,aE⟩:=hM.slice;have aN:I<b0:=by rw[←ad];exact(Ai hN).1
 have aA:=fun(W:World) (X:Below b0 w W)=>hM.below (ad▸X)
 have af:=QS false (QR false v z1 z2);generalize h0Z false (QR false v z1 z2)=H0 at*;have ae:=yN false af q (nbk 64 q.length);have ah:=yY (n:=64) (by decide) q.length;have an:zc false H0 q Z=qN 4 (yq false (stZ false H0 q (nbk 64 q.length)) (QC 64 ((q.drop (64*nbk 64 q.length)).take 64)) (q.length:Int) true Z) 8:=rfl;rw[an];obtain⟨ST,am⟩:=Ex (stZ false H0 q (nbk 64 q.length));obtain⟨s,hs⟩:=Ex (64*nbk 64 q.length);rw[am,hs]at ao⊢;rw[am]at ae;rw[hs]at ah;obtain⟨R,hR⟩:=Ex (yq false ST (QC 64 ((q.drop s).take 64)) (q.length:Int) true Z);have al:Words 32 8 R:=by rw[←hR];exact QQ false ae _ _ _ _
 rw[hR];have ax:qN 4 R 8=qN 4 (qL R) 8:=Zo 4 8 (fun j hj=>(qaV al.1 hj).symm);rw[ax];have aV:s≤q.length:=ah.1;have au:w.heap[I]? =some (.cells (rN 2 v sa pe kv Z (.slice ma q.length mc) ac) 254 (0,0)):=hN;have aw:=hM.1;have ap:=hid ao;have aJ:=hid aA;have aj:=hid ae;have aM:=hid hR;have aF:=hid al;have aI:=hid au;have aG:=hid aw;clear an ax am hs ah hR al ao aA ae hN au aw af hP h1 h2 hM aK aE aB az;go_enter Tryz.func156,Tryz.ntmps156
 go_wp2_with fail
 refine ap.out.mono ?_;rintro e w2 ⟨rfl,aq⟩;have ab:=hid (Qd (by decide) aj.out);have ag:=aq.size;have aC:=hid aq;clear aq;go_upto_region 2 with((with_reducible show wpList _ _ _ (Oper.mk none (Op.store 252 _ _) _ _ _ _::_) _ _);refine wpList_store_row rfl 252 _ _ rfl w2.heap.size (qi .u64 (qL ST)) rfl rfl 252 _ (Wn _ _) (by rw[qf,ab.out.1];kernel_rfl) (by rw[qf,ab.out.1];rfl) qA ?_)
 refine qm ?_;intro V J;obtain⟨b3,ak⟩:=Ex w2.heap.size;have m3:V.heap[b3]? =some (.cells (qi .u64 (qL ST)) 252 (0,0)):=by rw[J,←ak];exact setRow_heap _ _ _ _ _ _ (Wn _ _)
 have aa:Below b0 w V:=by rw[J,←ad];exact below_setRow (aC.out.alloc ag _) ag _
 have mn:V.heap[I]? =some (.cells (rN 2 v sa pe kv Z (.slice ma q.length mc) ac) 254 (0,0)):=(aa.block I aN).trans aI.out;rw[ak];have aT:b0≤b3:=by omega
 have ba:b3<V.heap.size:=(Ai m3).1;have bh:I<V.heap.size:=by omega
 have aZ:V.cell? ⟨I,33,none⟩=some (.slice ma q.length mc):=qd mn 33;have M3:=hid m3;have MN:=hid mn;have ai:=hid aa;clear J ak m3 mn aa aC ag ap;have bf:(s:Int)≤q.length:=by omega
 have ar:((q.length:Int) - s)=((q.length - s:Nat):Int):=by omega
 have aQ:IntKind.u64.wrap ((q.length:Int) - s)=((q.length - s:Nat):Int):=by rw[ar];exact u64_wrap_id _ (by omega) (by omega)
 have bi:=hid ar;clear ar;go_wp2_with fail
 refine(jl s (q.length - s) (by omega) _).mono ?_;rintro e w4 ⟨rfl,hw⟩;rw[hw];clear hw;rw[show s+(q.length - s)=q.length by omega];clear aQ;go_upto_region 3 with(fail)
 refine qD (n:=29) (w0:=V) (B:=V.heap.size) [.v 29 (.pointer (some ⟨I,0,none⟩)),.v 30 (.pointer (some ⟨I,0,none⟩)),.v 31 (.pointer (some ⟨I,0,none⟩)),.v 32 (.int .i64 2),.v 33 (.pointer (some ⟨I,0,none⟩)),.v 34 (.pointer (some ⟨I,0,none⟩)),.v 35 (.pointer (some ⟨I,0,none⟩)),.v 36 (.int .i64 2),.v 37 (.agg (qi .u64 (qL ST))),.v 38 (.pointer (some ⟨I,0,none⟩)),.v 39 (.pointer (some ⟨I,0,none⟩)),.v 40 (.pointer (some ⟨I,33,none⟩)),.v 41 (.slice ma q.length mc),.v 42 (.int .i64 (s:Nat)),.v 43 (.pointer (some ⟨I,0,none⟩)),.v 44 (.pointer (some ⟨I,0,none⟩)),.v 45 (.pointer (some ⟨I,0,none⟩)),.v 46 (.int .i64 2),.v 47 (.int .i64 64),.p 48 (fun u W=>W.ownsRow V.heap.size 5 1 u 64 ((QC 64 ((q.drop s).take 64)).map qt)),.v 49 (.int .u64 (q.length:Nat)),.v 50 (.int .u64 0),.v 51 (.pointer (some ⟨I,0,none⟩)),.v 52 (.pointer (some ⟨I,0,none⟩)),.v 53 (.pointer (some ⟨I,13,none⟩)),.v 54 (.bool Z),.v 55 (.agg (qi .u64 (qL R))),.p 56 (fun u W=>W.ownsRow V.heap.size 5 1 u 32 ((qN 4 (qL R) 8).map qt)),.p 2 (fun u W=>W.ownsRow V.heap.size 5 1 u 32 ((qN 4 (qL R) 8).map qt))] (by exact⟨(fun _ _ _ h X=>qk h (fun g _ hg=>X.block g hg)),(fun _ _ _ h X=>qk h (fun g _ hg=>X.block g hg)),(fun _ _ _ h X=>qk h (fun g _ hg=>X.block g hg)),trivial⟩) Br.drew Nl ?_ ?_
 ·repeat' (with_reducible first|exact qz|refine qx ?_ ?_)
  all_goals try
   intro A x W G J O o D K U;have a0:=G.2 0 (by decide);conv at a0=>rhs;whnf
   have a6:=G.2 6 (by decide);conv at a6=>rhs;whnf
   have a4:=G.2 4 (by decide);conv at a4=>rhs;whnf
   have a5:=G.2 5 (by decide);conv at a5=>rhs;whnf
   simp only[QN,QV]at D;clear o G;go_simp
   exact U _ _ BR rfl
  ·intro A x W G J O o _ K U;have bm:=gv G o 2 31;clear o G;have Y:=qg MN.out J;have c0:W.cell? ⟨I,0,none⟩=some (.int .i64 2):=qd Y 0;go_simp
   exact U _ _ BR rfl
  ·intro A x W G J O o _ K U;have aX:=gv G o 6 35;clear o G;have Y:=qg MN.out J;have c0:W.cell? ⟨I,0,none⟩=some (.int .i64 2):=qd Y 0;go_simp
   exact U _ _ BR rfl
  ·intro A x W G J O o _ K U;have a3:=G.2 3 (by decide);conv at a3=>rhs;whnf
   clear o G;have Y:=qg M3.out J;refine wp_load_row 252 _ rfl b3 a3 _ _ _ _ Y Tryz.underlying252 rfl (by rw[qf,ab.out.1];kernel_rfl) (U _ _ Br rfl)
  ·intro A x W G J O o _ K U;have bb:=gv G o 11 40;clear o G;have Y:=qg MN.out J;have c0:W.cell? ⟨I,33,none⟩=some (.slice ma q.length mc):=qd Y 33;go_simp
   exact U _ _ BR rfl
  ·intro A x W G J O o _ K U;have aY:=gv G o 16 45;clear o G;have Y:=qg MN.out J;have c0:W.cell? ⟨I,0,none⟩=some (.int .i64 2):=qd Y 0;go_simp
   exact U _ _ BR rfl
  ·intro A x W G J O o _ K U;have be:=gv G o 17 46;clear o G;go_simp
   refine(YQ false _).mono ?_;rintro e w' ⟨rfl,hw⟩;exact U _ _ (by rw[hw];exact Below.refl _ _) rfl
  ·intro A x W G J O o _ K U;have aU:=gv G o 12 41;have bl:=gv G o 13 42;have aW:=gv G o 18 47;clear o G;go_simp
   refine(jk q _ s 64 W (aJ.out W (ai.out.trans (J.mono (by omega)))) (by decide) (by omega) av).mono ?_;rintro e w' ⟨u,rfl,ho,X⟩;exact U _ _ X (ownsRow_le ho O)
  ·intro A x W G J O o _ K U;have a8:=gv G o 24 53;clear o G;have Y:=qg MN.out J;have c0:W.cell? ⟨I,13,none⟩=some (.bool Z):=qd Y 13;go_simp
   exact U _ _ BR rfl
  ·intro A x W G J O o _ K U;have a7:=gv G o 7 36;have bd:=gv G o 8 37;have aO:(fun u W=>W.ownsRow V.heap.size 5 1 u 64 ((QC 64 ((q.drop s).take 64)).map qt)) (x 48) W:=o ⟨19,.data⟩ (by simp) rfl _ rfl;have a9:A.tmps.getD 48 undef=x 48:=G.1 48 (by decide);have bc:=gv G o 20 49;have bg:=gv G o 21 50;have bj:=gv G o 25 54;clear o G;have aL:=yd (n:=64) (zs:=(q.drop s).take 64) (fun z hz=>aG.out z (List.mem_of_mem_drop (List.mem_of_mem_take hz)));go_simp
   refine(qap ST (QC 64 ((q.drop s).take 64)) aj.out _ q.length (by omega) true Z W (Q0 aO) aL (QI (List.length_take_le _ _))).mono ?_;rintro e w' ⟨rfl,X⟩;rw[aM.out];exact U _ _ X rfl
  ·intro A x W G J O o _ K U;have bn:=gv G o 3 32;have bk:=gv G o 26 55;clear o G;go_simp
   refine(qar false (qL R) (Qd (by decide) aF.out) _).mono ?_;rintro e w' ⟨u,rfl,ho,X⟩;exact U _ _ X (ownsRow_le ho O)
  ·intro A x W G J O o _ K U;have aR:(fun u W=>W.ownsRow V.heap.size 5 1 u 32 ((qN 4 (qL R) 8).map qt)) (x 56) W:=o ⟨27,.data⟩ (by simp) rfl _ rfl;have aS:A.tmps.getD 56 undef=x 56:=G.1 56 (by decide);clear o G;go_simp
   exact U _ _ Br (aS▸aR)
 intro x W J O aH;obtain⟨aD,ay,e2, -⟩:=aH;change (fun u W=>W.ownsRow V.heap.size 5 1 u 64 ((QC 64 ((q.drop s).take 64)).map qt)) (x 48) W at aD
 change (fun u W=>W.ownsRow V.heap.size 5 1 u 32 ((qN 4 (qL R) 8).map qt)) (x 56) W at ay
 change (fun u W=>W.ownsRow V.heap.size 5 1 u 32 ((qN 4 (qL R) 8).map qt)) (x 2) W at e2
 refine qv ?_;simp only[QA,Act.put,Ls];have E2:=hid (ownsRow_le e2 (show w.heap.size≤V.heap.size by omega));have aP:=hid (ai.out.trans (J.mono (by omega)));clear aD ay e2 J O;go_wp2
 go_ret
 exact⟨_,rfl,E2.out,by rw[ad];exact aP.out⟩
theorem qhb (big:Bool)(zs:List Int):(YD big zs).length≤sB big:=by
 unfold YD yR;simp only[List.length_take];omega
theorem qhr (big:Bool)(zs:List Int):(YR big zs).length≤sB big:=by
 unfold YR yR;simp only[List.length_take];omega
theorem qcN {big:Bool}{zs:List Int}(o: ∀z∈zs,0≤z∧z≤255): ∀z∈YD big zs,0≤z∧z≤255:=fun z h=>o z (List.mem_of_mem_drop (List.mem_of_mem_take (List.mem_of_mem_take h)))
theorem qc3 {big:Bool}{zs:List Int}(o: ∀z∈zs,0≤z∧z≤255): ∀z∈YR big zs,0≤z∧z≤255:=fun z h=>o z (List.mem_of_mem_drop (List.mem_of_mem_take (List.mem_of_mem_take h)))
theorem qgy {big:Bool}{zs:List Int}(J: ∀z∈zs,0≤z∧z≤255)(h:okD big false zs):ParOk big (Yn big false zs):=by
 obtain⟨G,hm,hx,V,X,k4,k9⟩:=h;have H:=fun f q o=>qS (big:=big) (ext:=false) J G (f:=f) q o
 have I: ∀f,1≤f→f≤9→((Yn big false zs f:Nat):Int)≤Q7 big false zs f:=fun f q o=>by
  have:=H f q o
  unfold Yn;split<;>omega
 have e:=fun f q o D=>JK (big:=big) (ext:=false) J G (f:=f) q o D
 have e1:=e 1 (by omega) (by omega) (by omega);have e2:=e 2 (by omega) (by omega) (by omega);have e4:=e 4 (by omega) (by omega) (by omega);have e9:=e 9 (by omega) (by omega) (by omega);have Y:Qh zs (atB big 1) (szE big false 1)=qr zs 0:=by cases big<;>simp[szE,szB,atB,Y0]
 have s2:Qh zs (atB big 2) (szE big false 2)=qr zs 1:=by cases big<;>simp[szE,szB,atB,Y0]
 have s4:Qh zs (atB big 4) (szE big false 4)=qr zs 3:=by cases big<;>simp[szE,szB,atB,Y0]
 have Z:Qh zs (atB big 9) (szE big false 9)=qr zs (atB big 9):=by cases big<;>simp[szE,szB,atB,Y0]
 have B: ∀f n,1≤f→f≤9→szE big false f≤n→((Yn big false zs f:Nat):Int)<2^(8*n):=fun f n U O hs=>by
  have q:=(H f U O).2;have o:=I f U O;have D:(2:Int)^(8*szE big false f)≤2^(8*n):=by exact_mod_cast Nat.pow_le_pow_right (by decide:0<2) (Nat.mul_le_mul_left 8 hs)
  omega
 refine⟨⟨?_,?_,⟨by omega,?_⟩,⟨?_,?_⟩,⟨by omega,fun hb=>?_⟩,⟨by omega,?_⟩,?_⟩,?_,?_,rfl⟩
 ·rw[e1,Y];exact V
 ·rw[e2,s2];exact X
 ·have:=B 3 1 (by omega) (by omega) (by cases big<;>decide);omega
 ·rw[e4,s4];exact k4 rfl
 ·have:=B 4 1 (by omega) (by omega) (by cases big<;>decide);omega
 ·have:=B 6 6 (by omega) (by omega) (by subst hb;decide);omega
 ·have:=B 8 1 (by omega) (by omega) (by cases big<;>decide);omega
 ·rw[e9,Z];exact k9
 ·have:=B 5 4 (by omega) (by omega) (by cases big<;>decide);omega
 ·have:=B 6 8 (by omega) (by omega) (by cases big<;>decide);omega
theorem qe8 (big:Bool)(v:Nat→Nat)(z1 z2 o:List Int)(J G Y I:Value)(D:Bool)(q:Int)(O:Nat)(w:World)(hN:yX big w O v J G Y D I q)(hP:ParOk big v)(h1:Hold w J z1)(Z:Hold w G z2)(X:z1.length≤sB big)(V:z2.length≤sB big)(hM:Hold w I o)(U:(o.length:Int)≤281474976710656):
  Calls Tryz.prog 156 #[.pointer (some ⟨O,0,none⟩)] w fun e w'=> ∃u,e= .returned u∧w'.ownsRow w.heap.size 5 1 u (mB big) ((zc big (h0Z big (QR big v z1 z2)) o D).map qt)∧Below w.heap.size w w':=by
 cases big
 ·exact qcY v z1 z2 o J G Y I D q O w hN hP h1 Z X V hM U
 ·exact qdP v z1 z2 o J G Y I D q O w hN hP h1 Z X V hM U
def qh9 (big:Bool)(v:Nat→Nat)(z1 z2 kz:List Int)(la:Bool)(o:Int)(ds:List Int)(w:World)(e:Ending)(w':World):Prop:=
 (∃u,e= .returned (.tuple #[u,.int .i64 0])∧Fresh w.heap.size w' u ((zc big (h0Z big (QR big v z1 z2)) (yk (bB big) kz++ds) la).take o.toNat))∧Below w.heap.size w w'
theorem qfv {base g c m:Nat}{W:World}{zs:List Int}(h:W.ownsRow base 5 1 (.slice (some ⟨g,0,none⟩) zs.length c) zs.length (zs.map qt))(o:m≤zs.length):Fresh base W (.slice (some ⟨g,0,none⟩) m c) (zs.take m):=by
 obtain⟨q,D,U,I,G,J,O⟩:=zw h;have e:(zs.take m).length=m:=by simp[List.length_take,Nat.min_eq_left o]
 refine .inr ⟨g,c,q,by rw[e],G,D,by omega,by omega,by omega,?_⟩;rw[e,List.map_take,←I,List.take_take,Nat.min_eq_left o]
theorem qh0 (big:Bool):mB big≤bB big∧bB big≤128:=by cases big<;>decide
theorem qfa (big:Bool)(v:Nat→Nat)(z1 z2 kz ds:List Int)(I:Bool)(o:Int)(sa pe kv dv:Value)(w:World)(hP:ParOk big v)(h1:Hold w sa z1)(h2:Hold w pe z2)(aD:z1.length≤sB big)(aC:z2.length≤sB big)(hK:Hold w kv kz)(an:kz.length≤mB big)(hk:kz.length=0∨kz.length=v 2)(hD:Hold w dv ds)(aG:(ds.length:Int)≤140737488355200)(ag: ¬(o<1∨(mB big:Nat)<o)):
  Calls Tryz.prog 121 #[.int .i64 (kB big),parN v sa pe,kv,.bool I,.int .i64 o,dv] w fun e w'=>qh9 big v z1 z2 kz I o ds w e w':=by
 obtain⟨O,D⟩:=Ex w.heap.size;obtain⟨a1,c1,rfl,aJ,aL⟩:=h1.slice;obtain⟨a2,c2,rfl,aP,aK⟩:=h2.slice;have ab:Below O w (w.alloc (.cells #[.int .i64 (v 1:Nat),.int .i64 (v 2:Nat),.int .i64 (v 3:Nat),.int .i64 (v 4:Nat),.int .u32 (v 5:Nat),.int .u64 (v 6:Nat),.int .u32 (v 7:Nat),.int .i64 (v 8:Nat),.int .i64 (v 9:Nat),.slice a1 z1.length c1,.slice a2 z2.length c2] 171)):=by rw[←D];exact Br.alloc Nl _
 have X:=Wn w (.cells #[.int .i64 (v 1:Nat),.int .i64 (v 2:Nat),.int .i64 (v 3:Nat),.int .i64 (v 4:Nat),.int .u32 (v 5:Nat),.int .u64 (v 6:Nat),.int .u32 (v 7:Nat),.int .i64 (v 8:Nat),.int .i64 (v 9:Nat),.slice a1 z1.length c1,.slice a2 z2.length c2] 171);rw[D]at X;have aN:=(Ai X).1;have aB:=hid hP;have aQ:=hid h1;have aY:=hid h2;have aw:=hid hK;have Z:=hid hD;have ac:=hid an;have aO:=hid hk;have ah:=hid aG;have ad:=hid aD;have aa:=hid aC;clear hP h1 h2 aD aC hK an hk hD aG aJ aL aP aK;unfold parN yT;go_enter Tryz.func121,Tryz.ntmps121
 go_upto_region 1 with(fail)
 generalize w.alloc (.cells #[.int .i64 (v 1:Nat),.int .i64 (v 2:Nat),.int .i64 (v 3:Nat),.int .i64 (v 4:Nat),.int .u32 (v 5:Nat),.int .u64 (v 6:Nat),.int .u32 (v 7:Nat),.int .i64 (v 8:Nat),.int .i64 (v 9:Nat),.slice a1 z1.length c1,.slice a2 z2.length c2] 171)=wA at*;go_wp2_with ((with_reducible show wpList _ _ _ (Oper.mk _ (Op.load 171 _) _ _ _ _::_) _ _);refine wpList_load_row rfl 171 _ rfl O rfl _ _ _ _ X Tryz.underlying171 rfl (by kernel_rfl) ?_)
 refine(qgq big v a1 a2 z1.length z2.length c1 c2 kz kv wA aB.out ad.out aa.out (aw.out.below (D▸ab)) ac.out aO.out).mono ?_;rintro e w1 ⟨q,mv,rfl,aR,hN,hO,af⟩;have aV:=af.size;have az:Below O w w1:=ab.trans (af.mono (by omega));have bb:q<w1.heap.size:=(Ai hN).1;have aH: ∀g,mv.ownBlock=some g→O<g:=fun g hg=>by have:=qbp hO hg;omega
 have am:=jo hO;have HN:=hid hN;have au:=hid am;have ap:=hid az;have ak:=hid aH;have ba:O<q:=by omega
 clear hN hO af az aH am X ab aN aV aR wA;have aj:=hid ag;have aX:decide (o<1)=false:=decide_eq_false (by omega);have a9:decide ((mB big:Int)<o)=false:=decide_eq_false (by omega);clear ag;have a5:w1.cell? ⟨q,13,none⟩=some (.bool false):=qd HN.out 13;have a3:=frozen_of_row w1 q 13 _ _ HN.out;go_wp2_with fail
 refine(qbi big _).mono ?_;rintro r w4 ⟨rfl,hw⟩;obtain rfl:=hw;go_upto_region 7 with(fail)
 have V:But q w4 (w4.setCell ⟨q,13,none⟩ (.bool I)):=(But.refl q w4).set 13 _;have av:=hid (show yX big (w4.setCell ⟨q,13,none⟩ (.bool I)) q v (.slice a1 z1.length c1) (.slice a2 z2.length c2) kv I mv 0 from qfc HN.out);have aA:=hid (Yc au.out V HN.out (by decide));have Y:=hid (show Below O w (w4.setCell ⟨q,13,none⟩ (.bool I)) from ap.out.trans (V.below (by omega) (by omega)));obtain⟨m,hm⟩: ∃m:Nat,o=(m:Int):=⟨o.toNat,by have:=aj.out;omega⟩;subst hm;have J:m≤mB big:=by have:=aj.out;omega
 have aZ:=hid J;clear HN au ap V a5 a3 aX a9 J;generalize (w4.setCell ⟨q,13,none⟩ (.bool I))=W4 at*;go_wp2_with fail
 have a4:=YS (n:=bB big) (key:=kz) (by have:=qh0 big;have:=ac.out;omega);have ae:((yk (bB big) kz++ds).length:Int)≤281474976710656:=by have:=qh0 big;have:=ah.out;rw[List.length_append];omega
 have ao: ∀z∈yk (bB big) kz++ds,0≤z∧z≤255:=fun z hz=>by
  rcases List.mem_append.1 hz with hz|hz
  ·exact YT aw.out.1 z hz
  ·exact Z.out.1 z hz
 have aM:=hid ae;have aT:=hid ao;refine(qcT big v (yk (bB big) kz) ds (.slice a1 z1.length c1) (.slice a2 z2.length c2) kv mv dv I 0 q W4 av.out aA.out (Z.out.below (D▸Y.out)) (fun al b hb=>⟨fun e=>by have:=Yx Z.out al hb;omega,fun e=>by have:=Yx Z.out al hb;have:=ak.out b e;omega⟩) (by have:=qh0 big;have:=ah.out;omega)).mono ?_;rintro e w5 ⟨rfl,⟨a8,aI,aF,aq⟩,ax⟩;clear a4 ae ao;have U:=hid (show Below O w w5 from Y.out.trans (ax.below (by have:=Y.out.size;omega) (fun k hk=>⟨by omega,fun e=>by have:=ak.out k e;omega⟩)));have a6:=hid aF;have aW:=hid aq;clear aF aq ax av aA Y;go_wp2_with fail
 refine(qe8 big v z1 z2 (yk (bB big) kz++ds) (.slice a1 z1.length c1) (.slice a2 z2.length c2) kv a8 I aI q w5 a6.out aB.out (aQ.out.below (D▸U.out)) (aY.out.below (D▸U.out)) ad.out aa.out (Qq aW.out aT.out) aM.out).mono ?_;rintro e w6 ⟨u,rfl,G,ar⟩;have aU:=hid (show Below O w w6 from U.out.trans (ar.mono (by have:=U.out.size;omega)));have aE:w.heap.size≤w5.heap.size:=U.out.size;obtain⟨u1,u2,u3,rfl⟩:=qu G;obtain rfl:u2=mB big:=yu G;obtain⟨gg,rfl⟩:=ZX (jo G) (by cases big<;>decide);obtain⟨cu, -, -, -, -,bd,aS⟩:=zw G;have ai:(zc big (h0Z big (QR big v z1 z2)) (yk (bB big) kz++ds) I).length=mB big:=by have:=G.1;simpa using this
 have bf:(u3:Int)≤9223372036854775807:=by unfold maxLen at aS;omega
 have J:=aZ.out;have bc:(m:Int)≤u3:=by omega
 have be:(mB big:Int)≤(u3:Int):=by omega
 have ay:=(qfv (m:=m) (zs:=zc big (h0Z big (QR big v z1 z2)) (yk (bB big) kz++ds) I) (c:=u3) (by rw[ai];exact G) (by rw[ai];exact J)).le aE;have a7:=hid ay;clear ay G ar ai aE J;go_wp2_with fail
 go_ret2
 exact⟨⟨_,rfl,a7.out⟩,by rw[D];exact aU.out⟩
theorem qem {big ext:Bool}{zs:List Int}(o: ∀z∈zs,0≤z∧z≤255)(q:zs.length=mB big):((Yn big ext zs 2:Nat):Int)=qr zs 1:=by
 rw[JK (big:=big) (ext:=ext) o q (f:=2) (by omega) (by omega) (by omega)]
 cases big<;>cases ext<;>simp[szE,szB,atB,Y0]
theorem qiw {big ext:Bool}{o kz:List Int}(D: ∀z∈o,0≤z∧z≤255)(G:o.length=mB big)(q:Yh o kz=false):kz.length=0∨kz.length=Yn big ext o 2:=by
 have J:=qem (ext:=ext) D G;unfold Yh at q;have I:=of_decide_eq_false q;omega
theorem qep {big:Bool}{q kz ds:List Int}{J:Bool}{o:Int}{w w0:World}{e:Ending}{w':World}(O: ∀z∈q,0≤z∧z≤255)(I:okD big false q)(D:Below w0.heap.size w0 w)(h:qh9 big (Yn big false q) (YD big q) (YR big q) kz J o ds w e w'):
  ∃u,e= .returned (.tuple #[u,.int .i64 0])∧qbN big q kz J o ds w0 (.returned (.tuple #[u,.int .i64 0])) w':=by
 obtain⟨⟨u,rfl,h⟩,G⟩:=h;rw[qhZ O I]at h;exact⟨u,rfl,⟨u,rfl,h.le D.size⟩,D.trans (G.mono D.size)⟩
theorem j7 (big:Bool)(D kz ds:List Int)(U:Bool)(o:Int)(J kv O:Value)(w:World)(hB:Hold w J D)(hK:Hold w kv kz)(hD:Hold w O ds)(aA:(ds.length:Int)≤140737488355200)(ay:okD big false D)(ac:Yh D kz=false)(ho: ¬(o<1∨(mB big:Nat)<o)):
  Calls Tryz.prog 85 #[.agg (Yb (kB big) J kv U o O)] w fun e w'=>qbN big D kz U o ds w e w':=by
 obtain⟨G,V⟩:=Ex w.heap.size;obtain⟨Z,kc,rfl,aE,aG⟩:=hK.slice;have aa:Below G w (w.alloc (.cells #[.int .i64 (kB big),J,.slice Z kz.length kc,.bool U,.int .i64 o,O] 73)):=by rw[←V];exact Br.alloc Nl _
 have I:=Wn w (.cells #[.int .i64 (kB big),J,.slice Z kz.length kc,.bool U,.int .i64 o,O] 73);rw[V]at I;have ad:=(Ai I).1;have hq:((kB big != 1)&&(kB big != 2))=false:=by cases big<;>rfl
 obtain⟨q0,aq⟩: ∃q,(kB big != 1)=q:=⟨_,rfl⟩;obtain⟨q1,aB⟩: ∃q,(kB big != 2)=q:=⟨_,rfl⟩;rw[aq,aB]at hq;obtain⟨kk,ag⟩:=Ex (kB big);have av:=hid ag;have af:=hid hB;have aL:=hid hK;have aO:=hid hD;have aF:=hid aA;have HO:=hid ay;have ae:=hid ac;have aN:=hid ho;clear hB hK hD aA aE aG ay ac ho;show Calls _ _ #[.agg #[.int .i64 (kB big),J,.slice Z kz.length kc,.bool U,.int .i64 o,O]] _ _
 rw[ag]at aa I ad aq aB⊢;clear ag;go_enter Tryz.func85,Tryz.ntmps85
 go_upto_region 1 with(fail)
 generalize w.alloc (.cells #[.int .i64 kk,J,.slice Z kz.length kc,.bool U,.int .i64 o,O] 73)=wA at*;have c0:wA.cell? ⟨G,0,none⟩=some (.int .i64 kk):=qd I 0;have c1:wA.cell? ⟨G,1,none⟩=some J:=qd I 1
 cases q0<;>cases q1<;>first|(exfalso;cases hq;done)|skip
 all_goals
  clear hq;go_wp2_with fail
  refine(show Calls Tryz.prog 120 #[.int .i64 kk,J] wA _ from av.out▸qbZ big D J wA (af.out.below (V▸aa)) HO.out).mono ?_;rintro e w1 ⟨⟨cs,rfl,az⟩,ab⟩;have aM:=ab.size;have al:=qg I ab;have ap:Below G w w1:=aa.trans (ab.mono (by omega));have X:=hid az;have ak:=hid ap;have au:=hid al;clear az ap al ab aa c0 c1 I;go_upto_region 7 with((with_reducible show wpList _ _ _ (Oper.mk none (Op.store 171 (Operand.tmp 5) _) _ _ _ _::_) _ _);refine wpList_store_row rfl 171 _ _ rfl w1.heap.size cs rfl rfl 171 _ (Wn _ _) (by rw[X.out.1];kernel_rfl) (by rw[X.out.1];rfl) X.out.2.1 ?_)
  refine qm ?_;intro W hW;obtain⟨p5,ah⟩:=Ex w1.heap.size;have r5:W.heap[p5]? =some (.cells cs 171 (0,0)):=by rw[hW,←ah];exact setRow_heap _ _ _ _ _ _ (Wn _ _)
  have r0:W.heap[G]? =some (.cells #[.int .i64 kk,J,.slice Z kz.length kc,.bool U,.int .i64 o,O] 73 (0,0)):=by rw[hW];exact(setRow_other (w1.alloc _) _ _ _ (by omega)).trans ((Bh _ _ _ (by omega)).trans au.out)
  have an:Below G w W:=by rw[hW];exact below_setRow (ak.out.alloc (by omega) _) (by omega) _
  have aj:DecIs big D G W cs:=X.out.mono (by omega) (fun g hg aK=>by rw[hW];exact(setRow_other (w1.alloc _) _ _ _ (by omega)).trans (Bh _ _ _ aK));rw[ah];have aQ:G<p5:=by omega
  have aS:p5<W.heap.size:=(Ai r5).1;clear hW ah au ak X aM ad;have R5:=hid r5;have R0:=hid r0;have ai:=hid an;have aC:=hid aj;clear r5 r0 an aj;obtain⟨-, -,sa,pe,Y,am,ao⟩:=aC.out;clear aC;obtain⟨v,hv⟩:=Ex (Yn big false D);rw[hv]at Y;unfold parN yT at Y;injection Y with Y
  subst Y;have hz:=af.out.1;have aP:=hid (Qq am (qcN hz));have aI:=hid (Qq ao (qc3 hz));have HV:=hid hv;clear am ao hv;have c5:W.cell? ⟨p5,1,none⟩=some (.int .i64 (v 2:Nat)):=qd R5.out 1;have c2:W.cell? ⟨G,2,none⟩=some (.slice Z kz.length kc):=qd R0.out 2;have aR:G<W.heap.size:=(Ai R0.out).1;have ax:((v 2:Nat):Int)=qr D 1:=by rw[←HV.out];exact qem hz HO.out.1
  obtain⟨q2,aH⟩: ∃q,((kz.length:Int) != 0)=q:=⟨_,rfl⟩;obtain⟨q3,aJ⟩: ∃q,((kz.length:Int) != (v 2:Nat))=q:=⟨_,rfl⟩;have aD:Yh D kz=(q2&&q3):=by rw[←aH,←aJ,ax];exact J4 D kz
  have aw:=hid aD;clear hz ax aD;have ar:(q2&&q3)=false:=by rw[←aw.out];exact ae.out
  clear aw;have c3:W.cell? ⟨G,3,none⟩=some (.bool U):=qd R0.out 3;have c4:W.cell? ⟨G,4,none⟩=some (.int .i64 o):=qd R0.out 4;have c6:W.cell? ⟨G,5,none⟩=some O:=qd R0.out 5
  cases q2<;>cases q3<;>first|(exfalso;cases ar;done)|skip
  all_goals
   clear ar;go_wp2_with ((with_reducible show wpList _ _ _ (Oper.mk _ (Op.load 171 _) _ _ _ _::_) _ _);refine wpList_load_row rfl 171 _ rfl p5 rfl _ _ _ _ R5.out Tryz.underlying171 rfl (by kernel_rfl) ?_)
   have HZ:=af.out.1;refine(show Calls Tryz.prog 121 #[.int .i64 kk,parN v sa pe,.slice Z kz.length kc,.bool U,.int .i64 o,O] W _ from av.out▸qfa big v (YD big D) (YR big D) kz ds U o sa pe (.slice Z kz.length kc) O W (HV.out▸qgy HZ HO.out) aP.out aI.out (qhb big D) (qhr big D) (aL.out.below (V▸ai.out)) (qdh HO.out ae.out) (HV.out▸qiw HZ HO.out.1 ae.out) (aO.out.below (V▸ai.out)) aF.out aN.out).mono ?_;intro e w9 hh;obtain⟨u,rfl,hc⟩:=qep (w0:=w) HZ HO.out (V▸ai.out) (HV.out▸hh);have HC:=hid hc;clear hh hc HZ;go_wp2_with fail
   go_ret2
   exact HC.out
end Go.Proofs.YthjoojnlnlmljaaGreat
